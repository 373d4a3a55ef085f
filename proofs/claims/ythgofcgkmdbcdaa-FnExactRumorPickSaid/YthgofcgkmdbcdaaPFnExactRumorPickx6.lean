import Derived.Test.YthgofcgkmdbcdaaPFnExactRumorPickx0
import Derived.Test.YthgofcgkmdbcdaaPFnExactRumorPickx5
namespace Go.Proofs.Ythgofcgkmdbcdaa.PFnExactRumorPick
open Go.RowKit Go.Proofs.YthgofcgkmdbcdaaW.PrintWords Go.Proofs.YthgofcgkmdbcdaaW.PrintLast Go.Proofs.YthgofcgkmdbcdaaW.PrintMore
attribute [local go_sem] max2_int min2_int max_two min_two max_three min_three max_four min_four   -- for this text's walks alone
set_option linter.unusedVariables false
set_option linter.unusedSimpArgs false
set_option maxHeartbeats 8000000 in
set_option maxRecDepth 100000 in
theorem impl_withFact.ins_end (v : Value) (l0 : List S54) (x : S54) (cx : List Value) (bx base : Nat) (w : World) (hR : Kd.R k54 54 w base (fun _ => True) v l0) (hcx : cx.length = 3) (hx : ∀ W b okp, Kd.M k54 W b okp x cx)
    (hbx : w.heap[bx]? = some (.cells cx.toArray 54 (0, 0))) (hbase : base ≤ w.heap.size) (hl : l0.length ≤ 1048576) :
    Calls Try.prog 117 #[v, .int .i64 (l0.length : Int), .slice (some ⟨bx, 0, none⟩) 1 1] w fun e w' => ∃ v' : Value, e = .returned v' ∧ Kd.R k54 54 w' base (fun _ => True) v' (l0 ++ [x]) ∧ Below base w w' := by
  obtain ⟨A, c, rfl⟩ := Kd.R_slice hR
  have HC := Aside0.mk (Go.Proofs.YthgofcgkmdbcdaaH.C_one (d := k54) (w := w) (e := 54) hcx ((Kd.K_of_M _) (hx w base (fun _ => True))) hbx)
  have hlc := (Kd.R_reads' hR).2.1
  have hlcz : (l0.length : Int) ≤ (c : Int) := by omega
  have HR := Aside0.mk hR
  have HX := Aside0.mk hx
  have HS := Aside0.mk hbase
  have HL := Aside0.mk hl
  clear hR hbx hbase hl hcx hx hlc
  obtain ⟨i0, hi, hz0, hz1, hz2⟩ := info_parts info54
  obtain ⟨A1, hcut⟩ := Go.Proofs.YthgofcgkmdbcdaaH.cut_any (P := Try.prog) 49 54 .i64 Try.underlying49 hi A l0.length c l0.length (Nat.le_refl _)
  clear hi hz0 hz1 hz2
  go_enter Try.func117, Try.ntmps117
  go_wp2_with ((with_reducible refine gate_builtin (b := .append) (xs := #[.tmp 23, .tmp 24]) rfl ?_); at_builtin; refine Kd.R_append_rows k54 (Rr := Kd.K k54 w) (w0 := w) base rfl (.tmp 23) (.tmp 24) 49 54 (.agg #[(.int .i64 0), (.int .i64 0), (.int .i64 0)]) 24 rfl Try.underlying49 info54 rfl (by decide) (by decide) (.slice _ l0.length c) l0 [x] (some ⟨bx, 0, none⟩) 1 1 (fun _ => True) (fun _ => False) rfl rfl ?aO ?aR ?aK (fun _ h => h.elim) ?aF ?aB ?aS ?aL ?_; (case aR => exact HC.out); (case aK => intro p cs hp; exact (by obtain rfl := k54_open hp; exact k54_mkM _ _ _ p)); (case aB => exact Below.refl _ _); (case aF => exact (fun _ _ => trivial)); (case aO => exact HR.out); (case aS => exact HS.out); (case aL => have := HL.out; omega); intro v7 w7 ho hb hg hat; have HO7 := Aside0.mk ho; have HB7 := Aside0.mk hb; clear ho hb hg hat)
  go_ret
  exact ⟨_, rfl, HO7.out, HB7.out⟩
set_option maxHeartbeats 8000000 in
set_option maxRecDepth 100000 in
theorem impl_withFact.ins_in (v : Value) (l0 : List S54) (i : Nat) (x : S54) (cx : List Value) (bx base : Nat) (w : World) (hR : Kd.R k54 54 w base (fun _ => True) v l0) (hi : i < l0.length) (hcx : cx.length = 3) (hx : ∀ W b okp, Kd.M k54 W b okp x cx) (hc1 : ∀ u ∈ cx, u.oneCell' = true)
    (hbx : w.heap[bx]? = some (.cells cx.toArray 54 (0, 0))) (hne : v.ownBlock ≠ some bx) (hbase : base ≤ w.heap.size) (hl : l0.length ≤ 1048576) (hroom : ∀ g c, v = .slice (some ⟨g, 0, none⟩) l0.length c → l0.length + 1 ≤ c) :
    Calls Try.prog 117 #[v, .int .i64 (i : Int), .slice (some ⟨bx, 0, none⟩) 1 1] w fun e w' => ∃ v' : Value, e = .returned v' ∧ Kd.R k54 54 w' base (fun _ => True) v' (l0.take i ++ [x] ++ l0.drop i) ∧ Below base w w' := by
  obtain ⟨g, c, cur, hd, tl, rfl, hgb, hh, hnc, hcm, hcs, hhd, htl, hcd, hct, h1d, h1t, _⟩ := Go.Proofs.YthgofcgkmdbcdaaH.R_open hR (by decide) i hi
  have hrm := hroom g c rfl
  have esz : (k54).sz = 3 := rfl
  have hgx : g ≠ bx := fun e => hne (by rw [e]; rfl)
  have FIN := Aside0.mk (Go.Proofs.YthgofcgkmdbcdaaH.R_put_in (cur := cur) (Kd.R_drew hR) i (by omega) hrm x cx tl hcx hx htl (fun j u h => hct j u h))
  simp only [esz, Nat.mul_one] at hcs hhd htl hct FIN
  clear esz
  have BEL := Aside0.mk (Go.Proofs.YthgofcgkmdbcdaaH.below_setCells hgb cx (i * 3) (Go.Proofs.YthgofcgkmdbcdaaH.below_setCells hgb tl ((i + 1) * 3) (below_drew (Below.refl base w))))
  obtain ⟨i0, hi0, hz0, hz1, hz2⟩ := info_parts info54
  obtain ⟨A1, hcut⟩ := Go.Proofs.YthgofcgkmdbcdaaH.cut_any (P := Try.prog) 49 54 .i64 Try.underlying49 hi0 (some ⟨g, 0, none⟩) l0.length c i (by omega)
  have hsz : (Try.prog.info? 54).map (·.size) = some 3 := by rw [hi0]; simp [hz1]
  have hcell : ∀ k, k < c * 3 → (w.cell? ⟨g, k, none⟩).isSome = true := fun k hk => by
    rw [blk_cell hh, Array.getElem?_eq_getElem (by omega)]; rfl
  have hfz : ∀ k, w.frozen? ⟨g, k, none⟩ = false := fun k => blk_frozen hh k
  have hsa : w.shape? bx = some (54, cx.toArray.size) := by simp [World.shape?, hbx]
  have hsb : w.shape? g = some (54, cur.size) := by simp [World.shape?, hh]
  have hkB : cur.size ≠ 0 := by rw [hcs]; omega
  have hov : ∀ o lb cb, (callFunc 122 #[.slice (some ⟨bx, 0, none⟩) 1 1, .slice (some ⟨g, o, none⟩) lb cb]).run Try.prog w = .ok (.value (.bool false)) w := fun o lb cb => by
    rw [run_callFunc_extern Try.func122 (by kernel_rfl) (by kernel_rfl) (by kernel_rfl) (e := Extern.SlicesOverlaps.overlaps #[49, 49] #[4]) (by kernel_rfl),
      Go.Lib.run_overlaps_apart w 49 4 54 Try.underlying49 3 (fun w => by simp [sizeOf, typeInfo, hi0, hz1]) ⟨bx, 0, none⟩ ⟨g, o, none⟩ 1 1 lb cb (fun h => hgx h.symm) 54 54 _ _ hsa hsb hkB (blk_frozen hbx _) (blk_frozen hbx _)]
    rfl
  have hcp1 : ∀ ty dc sc, (Builtin.copy_ #[49, 49] ty #[.slice (some ⟨g, (i + 1) * 3, none⟩) (l0.length - i) dc, .slice (some ⟨g, i * 3, none⟩) (l0.length + 1 - i) sc]).run Try.prog w.drew = .ok (goInt (l0.length - i : Nat)) (w.drew.setCells g ((i + 1) * 3) tl) := fun ty dc sc => by
    have h := Go.Proofs.YthgofcgkmdbcdaaH.run_copy_cellsN (P := Try.prog) w.drew 49 49 ty 54 3 g ((i + 1) * 3) (l0.length - i) dc ⟨g, i * 3, none⟩ (l0.length + 1 - i) sc tl Try.underlying49 hsz (by rw [htl]; congr 1; simp only [Nat.min_def]; split <;> omega)
      (fun j v hj => by rw [show (⟨g, i * 3, none⟩ : Addr).add j = ⟨g, i * 3 + j, none⟩ by unfold Addr.add; split <;> simp_all]; exact hct j v hj)
      (fun j hj => hcell _ (by omega)) (fun j hj => hfz _) h1t
    rw [h]
    congr 2
    simp only [Nat.min_def]; split <;> omega
  have hW1 : ∃ W1, W1 = w.drew.setCells g ((i + 1) * 3) tl := ⟨_, rfl⟩
  obtain ⟨W1, hW1⟩ := hW1
  have hcp2 : ∀ (W : World), (∀ x, W.cell? x = W1.cell? x) → (∀ x, W.frozen? x = W1.frozen? x) → ∀ ty dc, (Builtin.copy_ #[49, 49] ty #[.slice (some ⟨g, i * 3, none⟩) (l0.length + 1 - i) dc, .slice (some ⟨bx, 0, none⟩) 1 1]).run Try.prog W = .ok (goInt (1 : Nat)) (W.setCells g (i * 3) cx) := fun W hWc hWf ty dc => by
    have h := Go.Proofs.YthgofcgkmdbcdaaH.run_copy_cellsN (P := Try.prog) W 49 49 ty 54 3 g (i * 3) (l0.length + 1 - i) dc ⟨bx, 0, none⟩ 1 1 cx Try.underlying49 hsz (by rw [hcx]; simp only [Nat.min_def]; split <;> omega)
      (fun j v hj => by
        rw [add_plain, hWc, hW1, World.cell?_setCells_out g _ _ _ _ (fun h _ => absurd h.symm hgx)]
        exact (blk_cell (w := w) hbx j).trans (by simpa using hj))
      (fun j hj => by
        rw [hWc, hW1]
        exact Go.Proofs.YthgofcgkmdbcdaaH.isSome_setCells g tl ((i + 1) * 3) w.drew (fun k hk => hcell _ (by omega)) _ (hcell _ (by omega)))
      (fun j hj => by rw [hWf, hW1, World.frozen?_setCells]; exact hfz _) hc1
    rw [h]
    congr 2
    simp only [Nat.min_def]; split <;> omega
  rw [← hW1] at hcp1
  have HW := Aside0.mk hW1
  have HI := Aside0.mk hi
  have HC := Aside0.mk hc1
  have HL := Aside0.mk hl
  have HX := Aside0.mk hx
  have HG := Aside0.mk hgx
  have HT := Aside0.mk hct
  have HD := Aside0.mk hcd
  have H2 := Aside0.mk (And.intro h1d h1t)
  have H3 := Aside0.mk (And.intro hhd htl)
  have H4 := Aside0.mk (And.intro hcell hfz)
  have HB := Aside0.mk hbx
  have hz1' : ¬ ((i : Int) = (l0.length : Int)) := by omega
  have hz2' : (i : Int) ≤ (l0.length : Int) := by omega
  have hz3' : (l0.length : Int) + 1 ≤ (c : Int) := by omega
  have hz4' : (i : Int) ≤ (l0.length : Int) + 1 := by omega
  have hz5' : (c : Int) ≤ 9223372036854775807 := by omega
  have hz6' : ¬ (c = i + 1) := by omega
  have hz7' : ¬ (c = i) := by omega
  have hz8' : IntKind.i64.wrap ((i : Int) + 1) = (i : Int) + 1 := by rw [IntKind.wrap_i64]; omega
  have hz9' : ((i : Int) + 1).toNat = i + 1 := by omega
  have hz10' : (0 : Int) ≤ (i : Int) + 1 := by omega
  have mixed : Try.prog.follows .mixedOrders = true := by kernel_rfl
  clear hW1 hi hc1 hl hx hgx hct hcd h1d h1t hhd htl hcell hfz hbx hR hh hroom hne hsa hsb hkB hsz hi0 hz0 hz1 hz2 hgb hcs hcx hbase
  go_enter Try.func117, Try.ntmps117
  go_wp2_with (simp only [hov])
  go_region_law_o (refine Go.Proofs.YthgofcgkmdbcdaaH.step_copy_runI rfl _ _ 49 49 rfl _ _ (by simp [Act.eval, Act.put]) (by simp [Act.eval, Act.put]) (hcp1 _ _ _) ?_)
  go_wp2_with (at_builtin; refine Go.Proofs.YthgofcgkmdbcdaaH.wpList_copy_runI _ rfl _ _ 49 49 rfl _ _ rfl rfl (hcp2 _ (fun _ => rfl) (fun _ => rfl) _ _) ?_)
  go_ret
  exact ⟨_, rfl, by rw [HW.out]; exact FIN.out, by rw [HW.out]; exact BEL.out⟩
set_option maxHeartbeats 8000000 in
set_option maxRecDepth 100000 in
theorem impl_withFact.ins_grow (v : Value) (l0 : List S54) (i : Nat) (x : S54) (cx : List Value) (bx base : Nat) (w : World) (hR : Kd.R k54 54 w base (fun _ => True) v l0) (hi : i < l0.length) (hcx : cx.length = 3) (hx : ∀ W b okp, Kd.M k54 W b okp x cx) (hc1 : ∀ u ∈ cx, u.oneCell' = true)
    (hbx : w.heap[bx]? = some (.cells cx.toArray 54 (0, 0))) (hbase : base ≤ w.heap.size) (hl : l0.length ≤ 1048576) (hroom : ∀ g c, v = .slice (some ⟨g, 0, none⟩) l0.length c → c < l0.length + 1) :
    Calls Try.prog 117 #[v, .int .i64 (i : Int), .slice (some ⟨bx, 0, none⟩) 1 1] w fun e w' => ∃ v' : Value, e = .returned v' ∧ Kd.R k54 54 w' base (fun _ => True) v' (l0.take i ++ [x] ++ l0.drop i) ∧ Below base w w' := by
  obtain ⟨g, c, cur, hd, tl, rfl, hgb, hh, hnc, hcm, hcs, hhd, htl, hcd, hct, h1d, h1t, hnew⟩ := Go.Proofs.YthgofcgkmdbcdaaH.R_open hR (by decide) i hi
  have hrm := hroom g c rfl
  have esz : (k54).sz = 3 := rfl
  simp only [esz, Nat.mul_one] at hcs hhd htl hct hnew
  clear esz
  obtain ⟨i0, hi0, hz0, hz1, hz2⟩ := info_parts info54
  have hsz : (Try.prog.info? 54).map (·.size) = some 3 := by rw [hi0]; simp [hz1]
  have hgw : g < w.heap.size := blk_lt hh
  have hxw : bx < w.heap.size := blk_lt hbx
  have hold : (Builtin.firstCells i0.size i (.slice (some ⟨g, 0, none⟩) i c)).run Try.prog w.drew = .ok hd.toArray w.drew := by
    rw [hz1]
    exact run_firstCells_some w.drew 3 i ⟨g, 0, none⟩ i c hd (by omega) (fun j v hj => by rw [add_plain]; exact hcd j v hj)
  have hrz : ∀ ty, (Builtin.append_ #[49, 3] ty #[.slice (some ⟨g, 0, none⟩) i c, .int .i64 ((l0.length : Int) + 1 - (i : Int))]).run Try.prog w =
      .ok (.slice (some ⟨w.heap.size, 0, none⟩) (l0.length + 1) (grownCap w (l0.length + 1) c 54)) (w.drew.alloc (.cells (hd.toArray ++ Builtin.zeroCells (Value.cells (.agg #[(.int .i64 0), (.int .i64 0), (.int .i64 0)])) (l0.length + 1 - i) ++ Builtin.zeroCells (Value.cells (.agg #[(.int .i64 0), (.int .i64 0), (.int .i64 0)])) (grownCap w (l0.length + 1) c 54 - (l0.length + 1))) 54)) := fun ty => by
    have h := Go.Lib.run_append_grow_zeros w 49 3 ty 54 i0 _ .i64 .i64 Try.underlying49 Try.underlying3 hi0 hz0 (some ⟨g, 0, none⟩) i c hd hold (l0.length + 1 - i) (by omega) (by omega) (by omega) (by omega) (by rw [hz2]; omega) (by rw [hz2, show i + (l0.length + 1 - i) = l0.length + 1 by omega]; exact growslice_fits hrm (by omega))
    rw [show i + (l0.length + 1 - i) = l0.length + 1 by omega] at h
    rw [show (l0.length : Int) + 1 - (i : Int) = ((l0.length + 1 - i : Nat) : Int) by omega]
    exact h
  have hGn : l0.length + 1 ≤ grownCap w (l0.length + 1) c 54 := grownCap_ge w _ _ _
  have hG63 : grownCap w (l0.length + 1) c 54 ≤ 9223372036854775807 := by
    have := grownCap_le_maxLen w (l0.length + 1) c 54 (by unfold maxLen; omega)
    unfold maxLen at this
    omega
  generalize grownCap w (l0.length + 1) c 54 = G at *
  obtain ⟨ROW, hROW⟩ : ∃ ROW : Array Value, ROW = hd.toArray ++ Builtin.zeroCells (Value.cells (.agg #[(.int .i64 0), (.int .i64 0), (.int .i64 0)])) (l0.length + 1 - i) ++ Builtin.zeroCells (Value.cells (.agg #[(.int .i64 0), (.int .i64 0), (.int .i64 0)])) (G - (l0.length + 1)) := ⟨_, rfl⟩
  rw [← hROW] at hrz
  have hzs : (Value.cells (.agg #[(.int .i64 0), (.int .i64 0), (.int .i64 0)])).size = 3 := rfl
  have hRl : ROW.size = G * 3 := by
    rw [hROW, Array.size_append, Array.size_append, size_zeroCells, size_zeroCells, hzs, List.size_toArray, hhd]
    omega
  have hRt : ROW.toList = hd ++ (Builtin.zeroCells (Value.cells (.agg #[(.int .i64 0), (.int .i64 0), (.int .i64 0)])) (l0.length + 1 - i) ++ Builtin.zeroCells (Value.cells (.agg #[(.int .i64 0), (.int .i64 0), (.int .i64 0)])) (G - (l0.length + 1))).toList := by
    rw [hROW]; simp
  have hRr : cx.length + tl.length ≤ ((Builtin.zeroCells (Value.cells (.agg #[(.int .i64 0), (.int .i64 0), (.int .i64 0)])) (l0.length + 1 - i) ++ Builtin.zeroCells (Value.cells (.agg #[(.int .i64 0), (.int .i64 0), (.int .i64 0)])) (G - (l0.length + 1))).toList).length := by
    simp only [Array.length_toList (xs := _ ++ _), Array.size_append, size_zeroCells, hzs]
    omega
  have W1b : (w.drew.alloc (.cells ROW 54)).heap[w.heap.size]? = some (.cells ROW 54 (0, 0)) := blk_new w.drew _
  obtain ⟨W1, hW1⟩ : ∃ W1, W1 = w.drew.alloc (.cells ROW 54) := ⟨_, rfl⟩
  rw [← hW1] at hrz W1b
  have hN : ∀ j, j < G * 3 → (W1.cell? ⟨w.heap.size, j, none⟩).isSome = true := fun j hj => by
    rw [blk_cell W1b, Array.getElem?_eq_getElem (by omega)]; rfl
  have hNf : ∀ j, W1.frozen? ⟨w.heap.size, j, none⟩ = false := fun j => blk_frozen W1b j
  have hO : ∀ b j v, b < w.heap.size → w.cell? ⟨b, j, none⟩ = some v → W1.cell? ⟨b, j, none⟩ = some v := fun b j v hb h => by rw [hW1, World.cell?_alloc_past (w := w.drew) _ b j hb]; exact h
  have hcpA : ∀ (W : World), (∀ x, W.cell? x = W1.cell? x) → (∀ x, W.frozen? x = W1.frozen? x) → ∀ ty dc, (Builtin.copy_ #[49, 49] ty #[.slice (some ⟨w.heap.size, i * 3, none⟩) (l0.length + 1 - i) dc, .slice (some ⟨bx, 0, none⟩) 1 1]).run Try.prog W = .ok (goInt (1 : Nat)) (W.setCells w.heap.size (i * 3) cx) := fun W hWc hWf ty dc => by
    have h := Go.Proofs.YthgofcgkmdbcdaaH.run_copy_cellsN (P := Try.prog) W 49 49 ty 54 3 w.heap.size (i * 3) (l0.length + 1 - i) dc ⟨bx, 0, none⟩ 1 1 cx Try.underlying49 hsz (by rw [hcx]; simp only [Nat.min_def]; split <;> omega)
      (fun j v hj => by rw [add_plain, hWc]; exact hO bx j v hxw ((blk_cell (w := w) hbx j).trans (by simpa using hj)))
      (fun j hj => by rw [hWc]; exact hN _ (by omega)) (fun j hj => by rw [hWf]; exact hNf _) hc1
    rw [h]
    congr 2
    simp only [Nat.min_def]; split <;> omega
  have hcpB : ∀ (W : World), (∀ x, W.cell? x = (W1.setCells w.heap.size (i * 3) cx).cell? x) → (∀ x, W.frozen? x = (W1.setCells w.heap.size (i * 3) cx).frozen? x) → ∀ ty dc sc, (Builtin.copy_ #[49, 49] ty #[.slice (some ⟨w.heap.size, (i + 1) * 3, none⟩) (l0.length - i) dc, .slice (some ⟨g, i * 3, none⟩) (l0.length - i) sc]).run Try.prog W = .ok (goInt (l0.length - i : Nat)) (W.setCells w.heap.size ((i + 1) * 3) tl) := fun W hWc hWf ty dc sc => by
    have h := Go.Proofs.YthgofcgkmdbcdaaH.run_copy_cellsN (P := Try.prog) W 49 49 ty 54 3 w.heap.size ((i + 1) * 3) (l0.length - i) dc ⟨g, i * 3, none⟩ (l0.length - i) sc tl Try.underlying49 hsz (by rw [htl]; simp only [Nat.min_def]; split <;> omega)
      (fun j v hj => by
        rw [show (⟨g, i * 3, none⟩ : Addr).add j = ⟨g, i * 3 + j, none⟩ by unfold Addr.add; split <;> simp_all, hWc, World.cell?_setCells_out _ _ _ _ _ (fun h _ => absurd h (by show g ≠ w.heap.size; omega))]
        exact hO g _ v hgw (hct j v hj))
      (fun j hj => by rw [hWc]; exact Go.Proofs.YthgofcgkmdbcdaaH.isSome_setCells w.heap.size cx (i * 3) W1 (fun t ht => hN _ (by omega)) _ (hN _ (by omega)))
      (fun j hj => by rw [hWf, World.frozen?_setCells]; exact hNf _) h1t
    rw [h]
    congr 2
    simp only [Nat.min_def]; split <;> omega
  obtain ⟨cur', hb1, hb2, hb3⟩ := Go.Proofs.YthgofcgkmdbcdaaH.new_row (W1 := (w.alloc (.cells ROW 54)).drew) (o := i * 3) (o2 := (i + 1) * 3) (W2 := (((w.alloc (.cells ROW 54)).drew.setCells w.heap.size (i * 3) cx).drew)) (blk_drew (blk_new w _)) hRt hRr (by omega) (by omega) rfl
  have HB1 : Below w.heap.size w ((((w.alloc (.cells ROW 54)).drew.setCells w.heap.size (i * 3) cx).drew).setCells w.heap.size ((i + 1) * 3) tl) := Go.Proofs.YthgofcgkmdbcdaaH.below_setCells (Nat.le_refl _) tl _ (below_drew (Go.Proofs.YthgofcgkmdbcdaaH.below_setCells (Nat.le_refl _) cx _ (below_drew (below_alloc (Below.refl _ w) _))))
  have FIN := Aside0.mk (hnew _ _ G cur' x cx HB1 hbase (Nat.le_refl _) hb1 hGn hG63 (by rw [hb2]; omega) hcx hx (by rw [← hb3]; congr 1; omega))
  have BEL := Aside0.mk (HB1.mono hbase)
  subst hW1
  have hE1 : ∀ x, ((w.alloc (.cells ROW 54)).drew).cell? x = (w.drew.alloc (.cells ROW 54)).cell? x := fun x => rfl
  have hE2 : ∀ x, ((w.alloc (.cells ROW 54)).drew).frozen? x = (w.drew.alloc (.cells ROW 54)).frozen? x := fun x => rfl
  have hF1 : ∀ x, (((w.alloc (.cells ROW 54)).drew.setCells w.heap.size (i * 3) cx).drew).cell? x = ((w.drew.alloc (.cells ROW 54)).setCells w.heap.size (i * 3) cx).cell? x := fun x => rfl
  have hF2 : ∀ x, (((w.alloc (.cells ROW 54)).drew.setCells w.heap.size (i * 3) cx).drew).frozen? x = ((w.drew.alloc (.cells ROW 54)).setCells w.heap.size (i * 3) cx).frozen? x := fun x => rfl
  have HI := Aside0.mk hi
  have HX := Aside0.mk (And.intro hx (And.intro hc1 (And.intro h1d h1t)))
  have hz1' : ¬ ((i : Int) = (l0.length : Int)) := by omega
  have hz2' : (i : Int) ≤ (l0.length : Int) := by omega
  have hz3' : (c : Int) < (l0.length : Int) + 1 := by omega
  have hz4' : (i : Int) ≤ (l0.length : Int) + 1 := by omega
  have hz5' : (c : Int) ≤ 9223372036854775807 := by omega
  have hz6' : ¬ (G = i + 1) := by omega
  have hz7' : ¬ (G = i) := by omega
  have hz11' : ¬ (c = i) := by omega
  have hz8' : IntKind.i64.wrap ((i : Int) + 1) = (i : Int) + 1 := by rw [IntKind.wrap_i64]; omega
  have hz9' : ((i : Int) + 1).toNat = i + 1 := by omega
  have hz10' : (0 : Int) ≤ (i : Int) + 1 := by omega
  have hz14' : (i : Int) ≤ (c : Int) := by omega
  have hz13' : (l0.length : Int) ≤ 1048576 := by omega
  have hz12' : (i : Int) + 1 ≤ (l0.length : Int) + 1 := by omega
  have mixed : Try.prog.follows .mixedOrders = true := by kernel_rfl
  have HLL := Aside0.mk (And.intro hl (And.intro hgw (And.intro hxw (And.intro hGn (And.intro hG63 hcm)))))
  clear hi hx hc1 h1d h1t hR hh hroom hrm hsz hi0 hz0 hz1 hz2 hgb hcs hcx hbase hnew hold hROW hzs hRl hRt hRr W1b hN hNf hO hb1 hb2 hb3 HB1 hl hgw hxw hnc hcm hhd htl hcd hct hbx hGn hG63
  go_enter Try.func117, Try.ntmps117
  go_wp2_with (first
    | (at_builtin; refine Go.Lib.wpList_append_run _ rfl _ _ _ _ rfl _ _ rfl rfl _ _ (hrz _) ?_)
    | (at_builtin; refine Go.Proofs.YthgofcgkmdbcdaaH.wpList_copy_runI _ rfl _ _ 49 49 rfl _ _ rfl rfl (hcpA _ hE1 hE2 _ _) ?_)
    | (at_builtin; refine Go.Proofs.YthgofcgkmdbcdaaH.wpList_copy_runI _ rfl _ _ 49 49 rfl _ _ rfl rfl (hcpB _ (fun _ => rfl) (fun _ => rfl) _ _ _) ?_))
  go_region_law_o (refine Go.Proofs.YthgofcgkmdbcdaaH.step_copy_runI rfl _ _ 49 49 rfl (.slice (some ⟨w.heap.size, (i + 1) * 3, none⟩) (l0.length - i) (G - (i + 1))) (.slice (some ⟨g, i * 3, none⟩) (l0.length - i) (c - i)) (by simp [Act.eval, Act.put]) (by simp [Act.eval, Act.put]) (hcpB _ hF1 hF2 3 (G - (i + 1)) (c - i)) ?_)
  go_wp2
  go_ret
  exact ⟨_, rfl, FIN.out, BEL.out⟩
theorem impl_withFact.ins (v : Value) (l0 : List S54) (i : Nat) (x : S54) (cx : List Value) (bx base : Nat) (w : World) (hR : Kd.R k54 54 w base (fun _ => True) v l0) (hi : i ≤ l0.length) (hcx : cx.length = 3) (hx : ∀ W b okp, Kd.M k54 W b okp x cx) (hc1 : ∀ u ∈ cx, u.oneCell' = true)
    (hbx : w.heap[bx]? = some (.cells cx.toArray 54 (0, 0))) (hne : v.ownBlock ≠ some bx) (hbase : base ≤ w.heap.size) (hl : l0.length ≤ 1048576) :
    Calls Try.prog 117 #[v, .int .i64 (i : Int), .slice (some ⟨bx, 0, none⟩) 1 1] w fun e w' => ∃ v' : Value, e = .returned v' ∧ Kd.R k54 54 w' base (fun _ => True) v' (l0.take i ++ [x] ++ l0.drop i) ∧ Below base w w' := by
  rcases Nat.lt_or_ge i l0.length with h | h
  · obtain ⟨g, c, rfl, _⟩ := Kd.R_form hR (by omega)
    by_cases hr : l0.length + 1 ≤ c
    · exact impl_withFact.ins_in _ l0 i x cx bx base w hR h hcx hx hc1 hbx hne hbase hl (fun g' c' e => by cases e; exact hr)
    · exact impl_withFact.ins_grow _ l0 i x cx bx base w hR h hcx hx hc1 hbx hbase hl (fun g' c' e => by cases e; omega)
  · obtain rfl : i = l0.length := by omega
    rw [List.take_of_length_le (Nat.le_refl _), List.drop_of_length_le (Nat.le_refl _), List.append_nil]
    exact impl_withFact.ins_end _ l0 x cx bx base w hR hcx hx hbx hbase hl
def impl_withFact.cmp (x : S54) (n : Int) : Int := wrap64 (x.f0 - n)
def impl_withFact.bs (l : List S54) (n : Int) : Nat → Nat → Nat → Nat
  | 0, i, _ => i
  | f + 1, i, j => if i < j then (if impl_withFact.cmp (l.getD ((i + j) / 2) z54) n < 0 then impl_withFact.bs l n f ((i + j) / 2 + 1) j else impl_withFact.bs l n f i ((i + j) / 2)) else i
def impl_withFact.at_ (l : List S54) (n : Int) : Nat := impl_withFact.bs l n (l.length + 1) 0 l.length
def impl_withFact.is_ (l : List S54) (n : Int) : Bool := decide (impl_withFact.at_ l n < l.length) && decide (impl_withFact.cmp (l.getD (impl_withFact.at_ l n) z54) n = 0)
def impl_withFact.f (l0 : List S54) (a1_0 a1_1 a1_2 : Int) : Option (List S54) := if l0.length ≤ 1048576 ∧ impl_withFact.at_ l0 a1_0 ≤ l0.length then (if impl_withFact.is_ l0 a1_0 = true then some (l0.set (impl_withFact.at_ l0 a1_0) (⟨a1_0, a1_1, a1_2⟩ : S54)) else some (l0.take (impl_withFact.at_ l0 a1_0) ++ [(⟨a1_0, a1_1, a1_2⟩ : S54)] ++ l0.drop (impl_withFact.at_ l0 a1_0))) else none
set_option maxHeartbeats 8000000 in
set_option maxRecDepth 100000 in
theorem impl_withFact.asks (x : S54) (n : Int) (w : World) :
    Calls Try.prog 116 #[.agg #[.int .i64 x.f0, .int .i64 x.f1, .int .i64 x.f2], .int .i64 n] w fun e w' => e = .returned (.int .i64 (impl_withFact.cmp x n)) ∧ Below w.heap.size w w' := by
  have hue_ := Try.underlying54
  unfold impl_withFact.cmp
  go_enter Try.func116, Try.ntmps116
  go_wp2_with ((with_reducible refine gate_dst (N := 2) rfl ?_); refine box_event ?hg (N := 2) ?hd (cs := #[.int .i64 x.f0, .int .i64 x.f1, .int .i64 x.f2]) (t := 54) ?hr ?_; (case hd => rfl); (case hg => rfl); (case hr => first | (go_simp; done) | (go_simp; rfl)); intro gc hg w8 hbox hb; have HB := Aside0.mk hb; have h2 : w8.cell? ⟨gc, 0, none⟩ = some (.int .i64 x.f0) := (blk_cell hbox 0).trans rfl; clear hb hbox hg)
  go_ret
  exact ⟨by first | rfl | simp, HB.out⟩
set_option maxHeartbeats 8000000 in
set_option maxRecDepth 100000 in
theorem impl_withFact.search (A0 : Option Addr) (c0 : Nat) (l0 : List S54) (n : Int) (w : World) (hr0 : Kd.C k54 w A0 l0.length l0) (hl : l0.length ≤ 1048576) :
    Calls Try.prog 115 #[.slice A0 l0.length c0, .int .i64 n, .func (.func 116) #[] #[]] w fun e w' => e = .returned (.tuple #[.int .i64 (impl_withFact.at_ l0 n : Int), .bool (impl_withFact.is_ l0 n)]) ∧ Below w.heap.size w w' := by
  have hue_ := Try.underlying54
  have HR0 := Aside0.mk hr0
  have HL := Aside0.mk hl
  clear hr0 hl
  go_enter Try.func115, Try.ntmps115
  go_wp2
  go_loopg [9, 10] l0.length (fun gg s9 s10 wr => ∃ i j f : Nat, s9 = .int .i64 (i : Int) ∧ s10 = .int .i64 (j : Int) ∧ Aside0 (i ≤ j ∧ j ≤ l0.length ∧ j - i < f ∧ j - i ≤ gg) ∧ Aside0 (impl_withFact.bs l0 n f i j = impl_withFact.at_ l0 n) ∧ Aside0 (Below w.heap.size w wr))
  case atStart => exact ⟨0, l0.length, l0.length + 1, rfl, rfl, ⟨by omega, by omega, by omega, by omega⟩, ⟨rfl⟩, ⟨Below.refl _ _⟩⟩
  case round =>
    obtain ⟨i, j, f, rfl, rfl, IJ, BS, HB⟩ := hrel
    have hl := HL.out
    obtain ⟨f, rfl⟩ : ∃ f', f = f' + 1 := ⟨f - 1, by have := IJ.out; omega⟩
    by_cases hlt : i < j
    · have hltz : (i : Int) < (j : Int) := by omega
      have hj := IJ.out.2.1
      obtain ⟨h, hh⟩ : ∃ h, h = (i + j) / 2 := ⟨_, rfl⟩
      have hmid : wrap64 ((IntKind.u64.wrap (wrap64 ((i : Int) + (j : Int)))) / 2) = (h : Int) := by rw [hh]; exact Go.Proofs.YthgofcgkmdbcdaaH.mid_eq (by omega)
      obtain ⟨ad, e1, hx0, hx1, hx2⟩ := at_T54 (Kd.C_below HR0.out HB.out) (h : Int) (by omega) (by omega)
      cases e1
      rw [Int.toNat_natCast] at hx0 hx1 hx2
      have hd : rd_T54 l0 (h : Int) = l0.getD h z54 := by simp [rd_T54]
      rw [hd] at hx0 hx1 hx2
      have hbs := BS.out
      rw [impl_withFact.bs, if_pos hlt, ← hh] at hbs
      have hhl : (h : Int) < (l0.length : Int) := by omega
      have hh0 : (0 : Int) ≤ (h : Int) := by omega
      have hm1 : (i : Int) + (j : Int) = ((i + j : Nat) : Int) := by omega
      have hm2 : ((i + j : Nat) : Int) / 2 = (h : Int) := by omega
      have hij1 : (0 : Int) ≤ (i : Int) + (j : Int) := by omega
      have hij2 : (i : Int) + (j : Int) ≤ 4000000 := by omega
      have hm3 : ((i : Int) + (j : Int)) / 2 = (h : Int) := by omega
      clear hm1 hm2
      have HH := Aside0.mk hh
      have MM := Aside0.mk hmid
      have J := Aside0.mk (And.intro hj hlt)
      clear hd hh hmid hj hlt hl BS
      generalize hxx : l0.getD h z54 = x at *
      by_cases hc : impl_withFact.cmp x n < 0
      · rw [if_pos hc] at hbs
        have hcd : decide (impl_withFact.cmp x n < 0) = true := decide_eq_true hc
        have BS := Aside0.mk hbs
        clear hbs hxx
        go_wp2_with (go_at_call 116; refine (impl_withFact.asks x n _).mono ?_; rintro e w' ⟨rfl, hb⟩; have HB2 := Aside0.mk (below_step HB.out hb); clear hb)
        go_roundg (j - (h + 1))
        case measure => have := IJ.out; have := J.out; have := HH.out; omega
        case rel => exact ⟨h + 1, j, f, by first | rfl | go_num, rfl, ⟨by have := J.out; have := HH.out; omega, J.out.1, by have := IJ.out; have := J.out; have := HH.out; omega, Nat.le_refl _⟩, BS, HB2⟩
      · rw [if_neg hc] at hbs
        have hcd : decide (impl_withFact.cmp x n < 0) = false := decide_eq_false hc
        have BS := Aside0.mk hbs
        clear hbs hxx
        go_wp2_with (go_at_call 116; refine (impl_withFact.asks x n _).mono ?_; rintro e w' ⟨rfl, hb⟩; have HB2 := Aside0.mk (below_step HB.out hb); clear hb)
        go_roundg (h - i)
        case measure => have := IJ.out; have := J.out; have := HH.out; omega
        case rel => exact ⟨i, h, f, rfl, rfl, ⟨by have := J.out; have := HH.out; omega, by have := J.out; have := HH.out; omega, by have := IJ.out; have := J.out; have := HH.out; omega, Nat.le_refl _⟩, BS, HB2⟩
    · have hltz : ¬ (i : Int) < (j : Int) := by omega
      have hij : j = i := by have := IJ.out; omega
      subst hij
      have hat : impl_withFact.at_ l0 n = j := by have := BS.out; rw [impl_withFact.bs, if_neg hlt] at this; exact this.symm
      have AT := Aside0.mk hat
      have hj := IJ.out.2.1
      clear hat BS hlt
      by_cases hjl : j < l0.length
      · have hjz : (j : Int) < (l0.length : Int) := by omega
        have hjd : decide ((j : Int) < (l0.length : Int)) = true := decide_eq_true hjz
        have hjd2 : decide (j < l0.length) = true := decide_eq_true hjl
        obtain ⟨ad, e1, hx0, hx1, hx2⟩ := at_T54 (Kd.C_below HR0.out HB.out) (j : Int) (by omega) (by omega)
        cases e1
        rw [Int.toNat_natCast] at hx0 hx1 hx2
        have hd : rd_T54 l0 (j : Int) = l0.getD j z54 := by simp [rd_T54]
        rw [hd] at hx0 hx1 hx2
        have HJ := Aside0.mk (show impl_withFact.is_ l0 n = decide (impl_withFact.cmp (l0.getD j z54) n = 0) by unfold impl_withFact.is_; rw [AT.out, hjd2, Bool.true_and])
        clear hd hl hj hjl hjd2
        generalize l0.getD j z54 = x at *
        go_wp2_with (go_at_call 116; refine (impl_withFact.asks x n _).mono ?_; rintro e w' ⟨rfl, hb⟩; have HB2 := Aside0.mk (below_step HB.out hb); clear hb)
        go_ret2
        refine ⟨?_, HB2.out⟩
        rw [HJ.out, AT.out]
        first | rfl | (congr 4; rw [Bool.eq_iff_iff]; simp) | (simp; done)
      · have hjz : ¬ (j : Int) < (l0.length : Int) := by omega
        have hjd : decide ((j : Int) < (l0.length : Int)) = false := decide_eq_false hjz
        have HJ := Aside0.mk (show impl_withFact.is_ l0 n = false by unfold impl_withFact.is_; rw [AT.out, decide_eq_false hjl, Bool.false_and])
        clear hjl hl hj
        go_wp2
        go_ret2
        refine ⟨?_, HB.out⟩
        rw [HJ.out, AT.out]
        rfl
set_option maxHeartbeats 8000000 in
set_option maxRecDepth 100000 in
theorem impl_withFact.calls (A0 : Option Addr) (c0 : Nat) (l0 : List S54) (a1_0 a1_1 a1_2 : Int) (r : List S54) (w : World) (hr0 : Kd.C k54 w A0 l0.length l0) (hc0 : l0.length ≤ c0) (h : impl_withFact.f l0 a1_0 a1_1 a1_2 = some r) :
    Calls Try.prog 106 #[.slice A0 l0.length c0, .agg #[.int .i64 a1_0, .int .i64 a1_1, .int .i64 a1_2]] w fun e w' => ∃ v0_ : Value, e = .returned (v0_) ∧ Kd.R k54 54 w' w.heap.size (fun _ => True) v0_ r ∧ Below w.heap.size w w' := by
  have hue_ := Try.underlying54
  have HR0 := Aside0.mk hr0
  have HC0 := Aside0.mk hc0
  clear hr0 hc0
  unfold impl_withFact.f at h
  by_cases hl : l0.length ≤ 1048576 ∧ impl_withFact.at_ l0 a1_0 ≤ l0.length
  · rw [if_pos hl] at h
    have HL := Aside0.mk hl
    have AL := Aside0.mk (show impl_Fact.f l0 = some l0 by unfold impl_Fact.f; rw [if_pos (by omega)])
    have SE := Aside0.mk (fun A c W hC => impl_withFact.search A c l0 a1_0 W hC hl.1)
    clear hl
    obtain ⟨b, hb⟩ : ∃ b, impl_withFact.is_ l0 a1_0 = b := ⟨_, rfl⟩
    rw [hb] at h
    cases b with
    | true =>
      rw [if_pos rfl] at h
      obtain rfl := Option.some.inj h
      have hlt : impl_withFact.at_ l0 a1_0 < l0.length := by
        unfold impl_withFact.is_ at hb
        rw [Bool.and_eq_true] at hb
        exact of_decide_eq_true hb.1
      have HT := Aside0.mk hlt
      have HS := Aside0.mk hb
      clear h hlt hb
      generalize impl_withFact.at_ l0 a1_0 = i at *
      go_enter Try.func106, Try.ntmps106
      go_upto_region 4 with (first | ((with_reducible refine gate_dst (N := 3) rfl ?_); refine box_event ?hg (N := 3) ?hd (cs := #[.int .i64 a1_0, .int .i64 a1_1, .int .i64 a1_2]) (t := 54) ?hr ?_; (case hd => rfl); (case hg => rfl); (case hr => first | (go_simp; done) | (go_simp; rfl)); intro gb hg w1 hbox hb; have HB := Aside0.mk hb; have BX := Aside0.mk hbox; clear hb hbox hg) | (go_at_call 76; refine (impl_Fact.calls A0 c0 l0 l0 _ (Kd.C_below HR0.out HB.out) HC0.out AL.out).mono ?_; rintro e w4 ⟨v0, rfl, ho, hb⟩; have RV := Aside0.mk (Kd.R_lower ho (below_size HB.out)); have HB4 := Aside0.mk (below_step HB.out hb); have BX4 := Aside0.mk (blk_below BX.out hb); have GB := Aside0.mk (show ∀ k, v0.ownBlock = some k → k ≠ gb from fun k hk => by have h1 := Kd.R_base ho k hk; have h2 := blk_lt BX.out; omega); clear HB BX ho hb; have hz0 : w4.cell? ⟨gb, 0, none⟩ = some (.int .i64 a1_0) := (blk_cell BX4.out 0).trans rfl) | (go_at_call 115; refine (SE.out A0 c0 w4 (Kd.C_below HR0.out HB4.out)).mono ?_; rintro e w5 ⟨rfl, hb⟩; rw [HS.out]; have RV5 := Aside0.mk (Kd.R_below RV.out hb); have HB5 := Aside0.mk (below_step HB4.out hb); have BX5 := Aside0.mk (blk_below BX4.out hb); clear RV HB4 BX4 hb hz0))
      have hi := HT.out
      obtain ⟨g, cp, eo, gb5, gl5, cl5, HG5⟩ := Kd.R_form RV5.out (by omega)
      subst eo
      have hz0 : w5.cell? ⟨gb, 0, none⟩ = some (.int .i64 a1_0) := (blk_cell BX5.out 0).trans rfl
      have hz1 : w5.cell? ⟨gb, 1, none⟩ = some (.int .i64 a1_1) := (blk_cell BX5.out 1).trans rfl
      have hz2 : w5.cell? ⟨gb, 2, none⟩ = some (.int .i64 a1_2) := (blk_cell BX5.out 2).trans rfl
      have hil : (i : Int) < (l0.length : Int) := by omega
      have hi0 : (0 : Int) ≤ (i : Int) := by omega
      obtain ⟨ce, hcl, hM, hcc, hfr⟩ := Kd.R_elem RV5.out z54 (i : Int) hi0 hil
      obtain rfl := k54_openM hM
      have HP := Kd.R_seg RV5.out (i : Int) hi0 hil (seg := [.int .i64 a1_0, .int .i64 a1_1, .int .i64 a1_2]) (j := 0) hcl hcc (show 3 ≤ 3 from by decide) (x' := (⟨a1_0, a1_1, a1_2⟩ : S54)) (k54_mkM _ _ _ (⟨a1_0, a1_1, a1_2⟩ : S54)) (fun _ hk => hk)
      rw [Int.toNat_natCast] at hcc hfr HP
      have hy0 := hcc 0 _ rfl
      have hy1 := hcc 1 _ rfl
      have hy2 := hcc 2 _ rfl
      have hf0 := hfr 0
      have hf1 := hfr 1
      have hf2 := hfr 2
      simp only [show (k54).sz = 3 from rfl, Nat.add_zero] at hy0 hy1 hy2 hf0 hf1 hf2 HP
      have H1 := Aside0.mk HP.1
      have GG := Aside0.mk gb5
      clear hcl hM hcc hfr HP hi gb5 gl5 HG5
      generalize (l0.getD i z54).f0 = q0 at *
      generalize (l0.getD i z54).f1 = q1 at *
      generalize (l0.getD i z54).f2 = q2 at *
      go_wp2
      go_ret
      exact ⟨_, rfl, H1.out, ((HB5.out.setCell (p := ⟨g, i * 3, none⟩) GG.out (.int .i64 a1_0)).setCell (p := ⟨g, i * 3 + 1, none⟩) GG.out (.int .i64 a1_1)).setCell (p := ⟨g, i * 3 + 2, none⟩) GG.out (.int .i64 a1_2)⟩
    | false =>
      rw [if_neg (by decide)] at h
      obtain rfl := Option.some.inj h
      have HS := Aside0.mk hb
      clear h hb
      generalize impl_withFact.at_ l0 a1_0 = i at *
      go_enter Try.func106, Try.ntmps106
      go_wp2_with (first | ((with_reducible refine gate_dst (N := 3) rfl ?_); refine box_event ?hg (N := 3) ?hd (cs := #[.int .i64 a1_0, .int .i64 a1_1, .int .i64 a1_2]) (t := 54) ?hr ?_; (case hd => rfl); (case hg => rfl); (case hr => first | (go_simp; done) | (go_simp; rfl)); intro gb hg w1 hbox hb; have HB := Aside0.mk hb; have BX := Aside0.mk hbox; clear hb hbox hg) | (go_at_call 76; refine (impl_Fact.calls A0 c0 l0 l0 _ (Kd.C_below HR0.out HB.out) HC0.out AL.out).mono ?_; rintro e w4 ⟨v0, rfl, ho, hb⟩; have RV := Aside0.mk (Kd.R_lower ho (below_size HB.out)); have HB4 := Aside0.mk (below_step HB.out hb); have BX4 := Aside0.mk (blk_below BX.out hb); clear HB BX ho hb; have hz0 : w4.cell? ⟨gb, 0, none⟩ = some (.int .i64 a1_0) := (blk_cell BX4.out 0).trans rfl) | (go_at_call 115; refine (SE.out A0 c0 w4 (Kd.C_below HR0.out HB4.out)).mono ?_; rintro e w5 ⟨rfl, hb⟩; rw [HS.out]; have RV5 := Aside0.mk (Kd.R_below RV.out hb); have HB5 := Aside0.mk (below_step HB4.out hb); have BX5 := Aside0.mk (blk_below BX4.out hb); clear RV HB4 BX4 hb hz0; have hz0 : w5.cell? ⟨gb, 0, none⟩ = some (.int .i64 a1_0) := (blk_cell BX5.out 0).trans rfl; have hz1 : w5.cell? ⟨gb, 1, none⟩ = some (.int .i64 a1_1) := (blk_cell BX5.out 1).trans rfl; have hz2 : w5.cell? ⟨gb, 2, none⟩ = some (.int .i64 a1_2) := (blk_cell BX5.out 2).trans rfl) | (go_at_call 117; refine (impl_withFact.ins v0 l0 i (⟨a1_0, a1_1, a1_2⟩ : S54) [.int .i64 a1_0, .int .i64 a1_1, .int .i64 a1_2] w5.heap.size w.heap.size (w5.alloc _) (Kd.R_alloc RV5.out _) HL.out.2 rfl (fun _ _ _ => k54_mkM _ _ _ (⟨a1_0, a1_1, a1_2⟩ : S54)) (by intro u hu; simp only [List.mem_cons, List.not_mem_nil, or_false] at hu; rcases hu with rfl | rfl | rfl <;> rfl) (blk_new w5 _) (by intro e; have := Kd.R_lt RV5.out _ e; omega) (by have := HB5.out.size; simp; omega) HL.out.1).mono ?_; rintro e w6 ⟨v1, rfl, ho, hb⟩; have RD := Aside0.mk ho; have HB6 := Aside0.mk ((below_alloc HB5.out _).trans hb); clear ho hb))
      go_ret
      exact ⟨_, rfl, RD.out, HB6.out⟩
  · rw [if_neg hl] at h
    cases h
def impl_Rumor_108.f (l0 : List (S100)) : Option (List (S100)) := if l0.length < 4398046511104 then some l0 else none
set_option maxHeartbeats 8000000 in
set_option maxRecDepth 100000 in
theorem impl_Rumor_108.calls (A0 : Option Addr) (c0 : Nat) (l0 : List (S100)) (r : List (S100)) (w : World) (hr0 : Kd.C k100 w A0 l0.length l0) (hc0 : l0.length ≤ c0) (h : impl_Rumor_108.f l0 = some r) :
    Calls Try.prog 108 #[.slice A0 l0.length c0] w fun e w' => ∃ v0_ : Value, e = .returned (v0_) ∧ Kd.R k100 100 w' w.heap.size (fun _ => True) v0_ r ∧ Below w.heap.size w w' := by
  unfold impl_Rumor_108.f at h
  by_cases hl : l0.length < 4398046511104
  · rw [if_pos hl] at h
    obtain rfl := Option.some.inj h
    clear h
    have HR0 := Aside0.mk hr0
    have HL := Aside0.mk hl
    have qn : ∀ (w : World) (a : Option Addr) (n c n' c' : Nat), (binOp .eql 65 (.slice a n c) (.slice none n' c')).run Try.prog w = .ok (.bool a.isNone) w := fun w a n c n' c' => Go.Lib.run_eql_slice_nil w _ _ a n c n' c' Try.underlying65
    cases A0 with
    | none =>
      have h0 : l0 = [] := by
        rcases Nat.eq_zero_or_pos l0.length with h | h
        · exact List.eq_nil_of_length_eq_zero h
        · obtain ⟨_, e, _⟩ := hr0.2.2 h
          cases e
      subst h0
      clear hr0 hc0 hl
      go_enter Try.func108, Try.ntmps108
      go_wp2
      go_ret
      exact ⟨_, rfl, Kd.R_nil _ _ _ _ _, Below.refl _ _⟩
    | some ad =>
      clear hr0 hc0 hl
      go_enter Try.func108, Try.ntmps108
      go_wp2_with (first | ((with_reducible refine gate_dst (N := 5) rfl ?_); refine Kd.R_lit k100 _ 100 ?hg (N := 5) ?hd (xs := ([] : List (S100))) (inner := []) (ok := fun _ => True) (okp := fun _ => True) ?hr ?hp (fun _ hk => hk) trivial (Below.refl _ _) (Nat.le_refl _) (by simp) ?_; (case hd => rfl); (case hg => rfl); (case hr => first | (go_simp; done) | (go_simp; rfl)); (case hp => exact (Reps.none _ _)); intro v5 w5 ho5 hb5 hg_ hnew_; clear hg_ hnew_; have HO5 := Aside0.mk ho5; have HB5 := Aside0.mk hb5; clear ho5 hb5) | ((with_reducible refine gate_builtin (b := .append) (xs := #[.tmp 5, .tmp 6]) rfl ?_); at_builtin; refine Kd.R_append_rows k100 (w0 := w) w.heap.size rfl (.tmp 5) (.tmp 6) 65 100 (.agg #[(.int .i64 0), (.int .i64 0), (.int .i64 0), (.int .i64 0)]) 32 rfl Try.underlying65 info100 rfl (by decide) (by omega) v5 [] l0 _ _ _ (fun _ => True) (fun _ => False) rfl rfl ?aO ?aR (fun _ _ h => h) (fun _ h => h.elim) ?aF ?aB ?aS ?aL ?_; (case aR => exact Kd.C_below HR0.out HB5.out); (case aB => exact HB5.out); (case aF => exact (fun _ _ => trivial)); (case aO => exact HO5.out); (case aS => exact HB5.out.size); (case aL => have := HL.out; simp only [List.length_nil]; omega); intro v7 w7 ho hb hg hat; have HO7 := Aside0.mk ho; have HB7 := Aside0.mk hb; clear ho hb hg hat; obtain ⟨Ao_, co_, eo_⟩ := Kd.R_slice HO7.out; subst eo_))
      go_ret
      exact ⟨_, rfl, HO7.out, HB7.out⟩
  · rw [if_neg hl] at h; exact absurd h (by simp)
end Go.Proofs.Ythgofcgkmdbcdaa.PFnExactRumorPick
