/- A row of bytes that a conversion of a string laid, or an append to one: its cells are ours; the block's frozen mark does not reach them. -/
import Derived.Lib.ConvBytes
import Derived.Deep.AppendSrc
import Derived.Laws.BytesArg
import Derived.Laws.AppendOwn
import Derived.Below
import Derived.Deep.Draws
import Derived.Tactics
namespace Go.Proofs.YtkgjikjnciihmaaH
open Go.RowKit
set_option linter.unusedVariables false
set_option linter.unusedSimpArgs false

/-- The slice v holds the bytes xs in a row that is new since B. -/
structure BRow (B : Nat) (W w : World) (v : Value) (xs : List Int) : Prop where
  ex : ∃ g c, v = .slice (some ⟨g, 0, none⟩) xs.length c ∧ xs.length ≤ c ∧ B ≤ g ∧ (∀ j, j < xs.length → w.cell? ⟨g, j, none⟩ = some (.int .u8 (xs.getD j 0))) ∧ (∀ j, j < c → (w.cell? ⟨g, j, none⟩).isSome = true ∧ w.frozen? ⟨g, j, none⟩ = false)
  below : Below B W w
  le : B ≤ w.heap.size
theorem BRow.carry {B : Nat} {W w w' : World} {v : Value} {xs : List Int} (h : BRow B W w v xs) (hb : Below B W w') (hs : w.heap.size ≤ w'.heap.size) (hh : ∀ k, k < w.heap.size → w'.heap[k]? = w.heap[k]?) : BRow B W w' v xs := by
  obtain ⟨g, c, hv, hl, hg, hc, hf⟩ := h.ex
  have hlt : ∀ j, j < c → g < w.heap.size := fun j hj => World.block_lt_of_cell? _ _ (Option.isSome_iff_exists.1 (hf j hj).1).choose_spec
  have e1 : ∀ j, j < c → w'.cell? ⟨g, j, none⟩ = w.cell? ⟨g, j, none⟩ := fun j hj => World.cell?_of_block (a := ⟨g, j, none⟩) (hh g (hlt j hj))
  refine ⟨⟨g, c, hv, hl, hg, fun j hj => (e1 j (by omega)).trans (hc j hj), fun j hj => ⟨by rw [e1 j hj]; exact (hf j hj).1, ?_⟩⟩, hb, Nat.le_trans h.le hs⟩
  exact (World.frozen?_of_block (a := ⟨g, j, none⟩) (hh g (hlt j hj))).trans (hf j hj).2
theorem BRow.alloc {B : Nat} {W w : World} {v : Value} {xs : List Int} (h : BRow B W w v xs) (o : Obj) : BRow B W (w.alloc o) v xs :=
  h.carry (h.below.alloc h.le o) (by simp) (fun k hk => Below.heap_alloc _ _ _ hk)
theorem BRow.drew {B : Nat} {W w : World} {v : Value} {xs : List Int} (h : BRow B W w v xs) : BRow B W w.drew v xs := h.carry h.below.drew (Nat.le_refl _) (fun _ _ => rfl)
theorem BRow.drewN {B : Nat} {W : World} {v : Value} {xs : List Int} : ∀ (n : Nat) {w : World}, BRow B W w v xs → BRow B W (w.drewN n) v xs
  | 0, _, h => h
  | n + 1, _, h => (BRow.drewN n h).drew
/-- The bytes of a text, as numbers. -/
def bytesOf (s : ByteArray) : List Int := s.data.toList.map fun b => (b.toNat : Int)
theorem bytesOf_length (s : ByteArray) : (bytesOf s).length = s.size := by simp [bytesOf]
theorem strOf_bytesOf (s : ByteArray) (l : List Int) : strOfNums (bytesOf s ++ l) = s ++ strOfNums l := by
  apply ByteArray.ext
  apply Array.ext'
  simp [strOfNums, bytesOf, ByteArray.data_append, Function.comp_def]
/-- What []byte(s) lays. -/
theorem BRow.ofString (W w : World) (B : Nat) (e : TypeId) (s : ByteArray) (hb : Below B W w) (hle : B ≤ w.heap.size) : BRow B W (Lib.bytesWorld w e s) (.slice (some ⟨w.heap.size, 0, none⟩) s.size (grownCap w s.size 0 e)) (bytesOf s) := by
  have hsz : (Lib.bytesCells w e s).size = grownCap w s.size 0 e := by
    have := grownCap_ge w s.size 0 e
    simp [Lib.bytesCells]
    omega
  refine ⟨⟨w.heap.size, _, by rw [bytesOf_length], by rw [bytesOf_length]; exact grownCap_ge _ _ _ _, hle, fun j hj => ?_, fun j hj => ⟨?_, ?_⟩⟩, ?_, ?_⟩
  · rw [bytesOf_length] at hj
    rw [Lib.bytesWorld_cell w e s j hj]
    have hj2 : j < s.data.size := hj
    simp [bytesOf, List.getD, Array.getElem?_eq_getElem hj2]
  · have hj2 : j < (Lib.bytesCells w e s).size := by omega
    simp [World.cell?, Lib.bytesWorld_at_new, hj2]
  · have hj2 : j < (Lib.bytesCells w e s).size := by omega
    simp only [World.frozen?, Lib.bytesWorld_at_new]
    simp
    omega
  · refine ⟨?_, ?_, ?_, ?_, fun k hk => (Lib.bytesWorld_at_old w e s k (by omega)).trans (hb.block k hk)⟩
    · exact Eq.trans (by simp [Lib.bytesWorld, World.freeze, World.alloc, World.drew, -World.alloc_eq, -World.drew_eq]) hb.os
    · exact Eq.trans (by simp [Lib.bytesWorld, World.freeze, World.alloc, World.drew, -World.alloc_eq, -World.drew_eq]) hb.tape
    · exact Eq.trans (by simp [Lib.bytesWorld, World.freeze, World.alloc, World.drew, -World.alloc_eq, -World.drew_eq]) hb.output
    · rw [Lib.bytesWorld_size]; have := hb.size; omega
  · rw [Lib.bytesWorld_size]; omega
theorem BRow.step {B : Nat} {W w w' : World} {v : Value} {xs : List Int} (h : BRow B W w v xs) (hb : Below w.heap.size w w') : BRow B W w' v xs :=
  h.carry ⟨hb.os.trans h.below.os, hb.tape.trans h.below.tape, hb.output.trans h.below.output, Nat.le_trans h.below.size hb.size, fun k hk => (hb.block k (Nat.lt_of_lt_of_le hk h.le)).trans (h.below.block k hk)⟩ hb.size (fun k hk => hb.block k hk)
/-- One byte turned. -/
theorem BRow.setByte {B : Nat} {W w : World} {g n c : Nat} {xs : List Int} (h : BRow B W w (.slice (some ⟨g, 0, none⟩) n c) xs) (j : Nat) (hj : j < xs.length) (y : Int) : BRow B W (w.setCell ⟨g, j, none⟩ (.int .u8 y)) (.slice (some ⟨g, 0, none⟩) n c) (xs.set j y) := by
  obtain ⟨g', c', hv, hl, hg, hc, hf⟩ := h.ex
  injection hv with e1 e2 e3
  injection e1 with e1
  injection e1 with e1
  subst e1 e2 e3
  refine ⟨⟨g, c, by simp, by simpa using hl, hg, fun i hi => ?_, fun i hi => ⟨?_, ?_⟩⟩, h.below.setCell hg _, by simpa [World.setCell] using h.le⟩
  · rw [List.length_set] at hi
    by_cases e : i = j
    · subst e
      rw [World.cell?_setCell_same _ _ _ (hc i hi)]
      simp [List.getD, hi]
    · rw [World.cell?_setCell_other _ _ _ _ (by intro h_; injection h_ with _ h_; exact e h_.symm), hc i hi]
      simp [List.getD, List.getElem?_set, Ne.symm e]
  · by_cases e : i = j
    · subst e
      rw [World.cell?_setCell_same _ _ _ (hc i hj)]
      rfl
    · rw [World.cell?_setCell_other _ _ _ _ (by intro h_; injection h_ with _ h_; exact e h_.symm)]
      exact (hf i hi).1
  · rw [World.frozen?_setCell]; exact (hf i hi).2
section
variable {P : Program}
/-- One byte more. -/
theorem run_append_byte (t tx ty e : TypeId) (i : TypeInfo) (z : Value) (ht : P.underlying t = some (.slice e)) (hi : P.info? e = some i) (hz : i.zero = some z) (hsize : i.size = 1) (hby : i.bytes = 1) (hzs : z.cells.size = 1)
    {B : Nat} {W w : World} {v : Value} {xs : List Int} (h : BRow B W w v xs) (x : Value) (y : Int) (hs : Src P 1 tx x 1 [.int .u8 y] w) (hlen : xs.length + 1 ≤ 1152921504606846976) (hbytes : (xs.length + 1) * 2 + 1024 ≤ 140737488355328) :
    ∃ v' w', (Builtin.append_ #[t, tx] ty #[v, x]).run P w = .ok v' w' ∧ BRow B W w' v' (xs ++ [y]) := by
  obtain ⟨g, c, rfl, hl, hg, hc, hf⟩ := h.ex
  by_cases hroom : xs.length + 1 ≤ c
  · have hlt : g < w.heap.size := World.block_lt_of_cell? _ _ (Option.isSome_iff_exists.1 (hf xs.length (by omega)).1).choose_spec
    have hr := run_append_room_src (P := P) (w := w) t tx ty e i ht hi g 0 xs.length c x 1 [.int .u8 y] (by rw [hsize]; exact hs) hroom
      (fun j hj => by simp at hj; subst hj; simpa [hsize] using (hf xs.length (by omega)).1) (fun j hj => by simp at hj; subst hj; simpa [hsize] using (hf xs.length (by omega)).2)
    rw [hsize, Nat.zero_add, Nat.mul_one] at hr
    refine ⟨_, _, hr, ?_⟩
    have hset : w.setCells g xs.length [.int .u8 y] = w.setCell ⟨g, xs.length, none⟩ (.int .u8 y) := rfl
    have hout : ∀ j, j ≠ xs.length → (w.setCells g xs.length [Value.int .u8 y]).cell? ⟨g, j, none⟩ = w.cell? ⟨g, j, none⟩ := fun j hj => World.cell?_setCells_out g _ _ w _ (fun _ _ => by simp; omega)
    have hin : (w.setCells g xs.length [Value.int .u8 y]).cell? ⟨g, xs.length, none⟩ = some (.int .u8 y) := by
      have := World.cell?_setCells_in g [Value.int .u8 y] xs.length w (fun j hj => by simp at hj; subst hj; simpa using (hf xs.length (by omega)).1) 0 (by simp)
      simpa using this
    refine ⟨⟨g, c, by simp, by simpa using hroom, hg, fun j hj => ?_, fun j hj => ⟨?_, ?_⟩⟩, ?_, ?_⟩
    · by_cases e1 : j = xs.length
      · subst e1
        rw [hin]; simp [List.getD]
      · simp at hj
        rw [hout j e1, hc j (by omega)]
        simp [List.getD, List.getElem?_append_left (show j < xs.length by omega)]
    · by_cases e1 : j = xs.length
      · subst e1
        rw [hin]; rfl
      · rw [hout j e1]; exact (hf j hj).1
    · rw [World.frozen?_setCells]; exact (hf j hj).2
    · rw [hset]; exact h.below.setCell hg _
    · rw [hset]; simpa [World.setCell] using h.le
  · have hfc : (Builtin.firstCells i.size xs.length (.slice (some ⟨g, 0, none⟩) xs.length c)).run P w.drew = .ok (xs.map (Value.int .u8)).toArray w.drew := by
      have hl2 : (loadCells ⟨g, 0, none⟩ xs.length).run P w.drew = .ok (xs.map (Value.int .u8)).toArray w.drew := by
        have := run_loadCells_list (P := P) w.drew ⟨g, 0, none⟩ (xs.map (Value.int .u8)) (fun j v hj => by
          have hjl : j < xs.length := by
            rcases Nat.lt_or_ge j xs.length with h | h
            · exact h
            · simp [List.getElem?_eq_none (show (xs.map (Value.int .u8)).length ≤ j by simpa using h)] at hj
          have hplain : (⟨g, 0, none⟩ : Addr).add j = ⟨g, j, none⟩ := by simp [Addr.add_lit]
          rw [hplain]
          show w.cell? ⟨g, j, none⟩ = _
          rw [hc j hjl]
          simp [List.getElem?_eq_getElem hjl] at hj
          subst hj
          simp [List.getD, List.getElem?_eq_getElem hjl])
        simpa using this
      simpa [Builtin.firstCells, hsize] using hl2
    have hfit : Builtin.nextslicecap (xs.length + 1) c * i.bytes ≤ 281474976710656 := by
      rw [hby]
      exact growslice_fits (by omega) (by omega)
    have hr := run_append_grow_src (P := P) (w := w) t tx ty e i z ht hi hz (some ⟨g, 0, none⟩) xs.length c (xs.map (Value.int .u8)) hfc x 1 [.int .u8 y] (by rw [hsize]; exact hs) (by omega) (by omega) hfit
    refine ⟨_, _, hr, ?_⟩
    have hge := grownCap_ge w (xs.length + 1) c e
    have hcs : ∀ n : Nat, (Builtin.zeroCells z.cells n).size = n := fun n => by
      rw [size_zeroCells, hzs, Nat.mul_one]
    have hcell : ∀ j, (w.drew.alloc (Obj.cells ((List.map (Value.int IntKind.u8) xs ++ [Value.int IntKind.u8 y]).toArray ++ Builtin.zeroCells z.cells (grownCap w (xs.length + 1) c e - (xs.length + 1))) e)).cell? ⟨w.heap.size, j, none⟩ = ((List.map (Value.int IntKind.u8) xs ++ [Value.int IntKind.u8 y]).toArray ++ Builtin.zeroCells z.cells (grownCap w (xs.length + 1) c e - (xs.length + 1)))[j]? := by
      intro j
      simp [World.cell?, World.alloc, World.drew, -World.alloc_eq, -World.drew_eq]
    have hall : ∀ j, j < grownCap w (xs.length + 1) c e → j < ((List.map (Value.int IntKind.u8) xs ++ [Value.int IntKind.u8 y]).toArray ++ Builtin.zeroCells z.cells (grownCap w (xs.length + 1) c e - (xs.length + 1))).size := by
      intro j hj
      rw [Array.size_append, hcs]
      simp
      omega
    refine ⟨⟨w.heap.size, grownCap w (xs.length + 1) c e, by simp, by simpa using hge, h.le, fun j hj => ?_, fun j hj => ⟨?_, ?_⟩⟩, ?_, ?_⟩
    · rw [hcell j]
      simp only [List.length_append, List.length_singleton] at hj
      rw [Array.getElem?_append_left (by simp; omega)]
      rw [show List.map (Value.int IntKind.u8) xs ++ [Value.int IntKind.u8 y] = List.map (Value.int IntKind.u8) (xs ++ [y]) by simp]
      have hj2 : j < (xs ++ [y]).length := by simp; omega
      simp only [List.getElem?_toArray, List.getElem?_map, List.getD, List.getElem?_eq_getElem hj2]
      rfl
    · rw [hcell j, Array.getElem?_eq_getElem (hall j hj)]
      rfl
    · simp [World.frozen?, World.alloc, World.drew, -World.alloc_eq, -World.drew_eq]
    · exact h.below.drew.alloc h.le _
    · have := h.le
      simp [World.alloc, World.drew, -World.alloc_eq, -World.drew_eq]
      omega
/-- .. for the walk. -/
theorem wpList_append_byte {B : Nat} {W w : World} {ops : Array Oper} {rest : List Oper} {o : Oper} {a : Act} {Q : Exit → Act → World → Prop} (hgd : o.guard = none) (s x : Operand) (t tx : TypeId)
    (ho : o.op = .call { callee := .builtin .append, args := #[s, x], argTypes := #[t, tx] }) (e : TypeId) (i : TypeInfo) (z : Value) (ht : P.underlying t = some (.slice e)) (hi : P.info? e = some i) (hz : i.zero = some z) (hsize : i.size = 1) (hby : i.bytes = 1) (hzs : z.cells.size = 1)
    {v : Value} {xs : List Int} (hv : a.eval s = v) (h : BRow B W w v xs) (xv : Value) (y : Int) (hx : a.eval x = xv) (hs : Src P 1 tx xv 1 [.int .u8 y] w) (hbytes : (xs.length + 1) * 2 + 1024 ≤ 140737488355328)
    (hK : ∀ v' w', BRow B W w' v' (xs ++ [y]) → wpList P ops Q rest (a.put o.dst v') w') : wpList P ops Q (o :: rest) a w := by
  refine wpList_plain hgd fun K hK' => ?_
  obtain ⟨v', w', hrun, r'⟩ := run_append_byte (P := P) t tx o.type e i z ht hi hz hsize hby hzs h xv y hs (by omega) hbytes
  unfold Oper.wp
  simp [execOp, ho, resolve, invoke, builtin, hv, hx, hrun, Result.andThen]
  exact hK' _ _ (hK v' w' r')
/-- The text of such a row. -/
theorem BRow.text {B : Nat} {W w : World} {v : Value} {xs : List Int} (h : BRow B W w v xs) (src e dst : TypeId) (hs : P.underlying src = some (.slice e)) (he : P.underlying e = some (.int .u8)) (hd : P.underlying dst = some .string) :
    (convert src dst v).run P w = .ok (.string (strOfNums xs)) w := by
  obtain ⟨g, c, rfl, hl, hg, hc, hf⟩ := h.ex
  exact run_convert_bytes_arg w src e hs he g 0 xs.length c xs rfl (fun i hi => by rw [Nat.zero_add]; exact hc i hi) dst hd
theorem BRow.shape {B : Nat} {W w : World} {v : Value} {xs : List Int} (h : BRow B W w v xs) : ∃ g c, v = .slice (some ⟨g, 0, none⟩) xs.length c := by
  obtain ⟨g, c, hv, _⟩ := h.ex
  exact ⟨g, c, hv⟩
end
end Go.Proofs.YtkgjikjnciihmaaH
