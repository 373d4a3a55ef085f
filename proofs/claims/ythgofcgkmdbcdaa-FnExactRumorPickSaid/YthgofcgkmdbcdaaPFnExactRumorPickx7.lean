import Derived.Test.YthgofcgkmdbcdaaPFnExactRumorPickx0
import Derived.Test.YthgofcgkmdbcdaaPFnExactRumorPickx5
import Derived.Test.YthgofcgkmdbcdaaPFnExactRumorPickx6
namespace Go.Proofs.Ythgofcgkmdbcdaa.PFnExactRumorPick
open Go.RowKit Go.Proofs.YthgofcgkmdbcdaaW.PrintWords Go.Proofs.YthgofcgkmdbcdaaW.PrintLast Go.Proofs.YthgofcgkmdbcdaaW.PrintMore
attribute [local go_sem] max2_int min2_int max_two min_two max_three min_three max_four min_four   -- for this text's walks alone
set_option linter.unusedVariables false
set_option linter.unusedSimpArgs false
def impl_picked.p (n : Int) (x : S100) : Bool := x.f1 == n
set_option maxHeartbeats 8000000 in
set_option maxRecDepth 100000 in
theorem impl_picked.asks (x : S100) (n : Int) (hn4 : n = 4) (w : World) :
    Calls Try.prog 110 #[.agg #[.int .i64 x.f0.f0, .int .i64 x.f0.f1, .int .i64 x.f0.f2, .int .i64 x.f1]] w fun e w' => e = .returned (.bool (impl_picked.p n x)) ∧ Below w.heap.size w w' := by
  have hue_ := Try.underlying100
  subst hn4
  unfold impl_picked.p
  go_enter Try.func110, Try.ntmps110
  go_wp2_with ((with_reducible refine gate_dst (N := 2) rfl ?_); refine box_event ?hg (N := 2) ?hd (cs := #[.int .i64 x.f0.f0, .int .i64 x.f0.f1, .int .i64 x.f0.f2, .int .i64 x.f1]) (t := 100) ?hr ?_; (case hd => rfl); (case hg => rfl); (case hr => first | (go_simp; done) | (go_simp; rfl)); intro gc hg w8 hbox hb; have HB := Aside0.mk hb; have h2 : w8.cell? ⟨gc, 3, none⟩ = some (.int .i64 x.f1) := (blk_cell hbox 3).trans rfl; clear hb hbox hg)
  go_ret
  exact ⟨rfl, by repeat (first | (with_reducible exact Below.refl _ _) | apply below_alloc | apply pw_below_drewN | apply below_drew1)⟩
set_option maxHeartbeats 8000000 in
set_option maxRecDepth 100000 in
theorem impl_picked.index (A0 : Option Addr) (c0 : Nat) (l0 : List S100) (n : Int) (hn4 : n = 4) (w : World) (hr0 : Kd.C k100 w A0 l0.length l0) (hl : l0.length ≤ 140737488355328) :
    Calls Try.prog 119 #[.slice A0 l0.length c0, .func (.func 110) #[] #[]] w fun e w' => ∃ i : Int, e = .returned (.int .i64 i) ∧ ((i = -1 ∧ ∀ m, m < l0.length → impl_picked.p n (l0.getD m z100) = false) ∨ ∃ j : Nat, i = (j : Int) ∧ j < l0.length ∧ impl_picked.p n (l0.getD j z100) = true ∧ ∀ m, m < j → impl_picked.p n (l0.getD m z100) = false) ∧ Below w.heap.size w w' := by
  have HR0 := Aside0.mk hr0
  have HL := Aside0.mk hl
  have H4 := Aside0.mk hn4
  clear hr0 hn4 hl
  go_enter Try.func119, Try.ntmps119
  go_wp2
  go_loopg [5, 8] l0.length (fun gg s5 s8 wr => ∃ kk : Nat, s8 = .int .i64 (kk : Int) ∧ Aside0 (kk ≤ l0.length) ∧ Aside0 (l0.length - kk ≤ gg) ∧ Aside0 (∀ m, m < kk → impl_picked.p n (l0.getD m z100) = false) ∧ Aside0 (Below w.heap.size w wr))
  case atStart => exact ⟨0, rfl, ⟨Nat.zero_le _⟩, ⟨by omega⟩, ⟨fun m hm => absurd hm (Nat.not_lt_zero _)⟩, ⟨Below.refl _ _⟩⟩
  case round =>
    obtain ⟨kk, rfl, K1, G1, E1, HB⟩ := hrel
    by_cases hlt : kk < l0.length
    · have hltz : (kk : Int) < (l0.length : Int) := by omega
      obtain ⟨ad, e1, hx0, hx1, hx2, hx3⟩ := at_T100 (Kd.C_below HR0.out HB.out) (kk : Int) (by omega) hltz
      cases e1
      rw [Int.toNat_natCast] at hx0 hx1 hx2 hx3
      have hd : rd_T100 l0 (kk : Int) = l0.getD kk z100 := by simp [rd_T100]
      rw [hd] at hx0 hx1 hx2 hx3
      have LT := Aside0.mk hlt
      clear hd hlt
      generalize hxx : l0.getD kk z100 = x at *
      have XX := Aside0.mk hxx
      clear hxx
      obtain ⟨b, hb⟩ : ∃ b, impl_picked.p n x = b := ⟨_, rfl⟩
      have PB := Aside0.mk hb
      clear hb
      have hask := impl_picked.asks x n H4.out wr
      rw [PB.out] at hask
      have HA := Aside0.mk hask
      clear hask
      cases b with
      | true =>
        go_wp2_with (go_at_call 110; refine HA.out.mono ?_; rintro e w' ⟨rfl, hb⟩; have HB2 := Aside0.mk (below_step HB.out hb); clear hb)
        go_ret
        exact ⟨(kk : Int), rfl, .inr ⟨kk, rfl, LT.out, by rw [XX.out]; exact PB.out, E1.out⟩, HB2.out⟩
      | false =>
        go_wp2_with (go_at_call 110; refine HA.out.mono ?_; rintro e w' ⟨rfl, hb⟩; have HB2 := Aside0.mk (below_step HB.out hb); clear hb)
        go_roundg (l0.length - (kk + 1))
        case measure => have := G1.out; have := LT.out; omega
        case rel =>
          refine ⟨kk + 1, ?_, ⟨by have := LT.out; omega⟩, ⟨Nat.le_refl _⟩, ⟨fun m hm => ?_⟩, HB2⟩
          · have := LT.out; have := HL.out
            first | rfl | (congr 1; omega) | (congr 1; unfold wrap64; omega) | go_num
          · rcases Nat.lt_or_ge m kk with h | h
            · exact E1.out m h
            · rw [show m = kk by omega, XX.out]; exact PB.out
    · have hltz : ¬ (kk : Int) < (l0.length : Int) := by omega
      have hk : kk = l0.length := by have := K1.out; omega
      subst hk
      go_wp2
      go_ret
      exact ⟨-1, rfl, .inl ⟨rfl, E1.out⟩, HB.out⟩
set_option maxHeartbeats 8000000 in
set_option maxRecDepth 100000 in
theorem impl_picked.deletes (v : Value) (l0 : List S100) (n : Int) (hn4 : n = 4) (base : Nat) (w : World) (hR : Kd.R k100 100 w base (fun _ => True) v l0) (hbase : base ≤ w.heap.size) (hl : l0.length ≤ 140737488355328) :
    Calls Try.prog 109 #[v, .func (.func 110) #[] #[]] w fun e w' => ∃ v' : Value, e = .returned v' ∧ Kd.R k100 100 w' base (fun _ => True) v' (l0.filter fun x => !impl_picked.p n x) ∧ Below base w w' ∧ ∀ k, k < w.heap.size → some k ≠ v.ownBlock → w'.heap[k]? = w.heap[k]? := by
  obtain ⟨A, c, rfl⟩ := Kd.R_slice hR
  have HR := Aside0.mk hR
  have HL := Aside0.mk hl
  have HS := Aside0.mk hbase
  have HX := Aside0.mk (impl_picked.index A c l0 n hn4 w (Kd.R_reads' hR).2.2 hl)
  have H4 := Aside0.mk hn4
  clear hR hn4 hl hbase
  go_enter Try.func109, Try.ntmps109
  go_upto_region 2 with (go_at_call 119; refine HX.out.mono ?_; rintro e w1 ⟨i, rfl, hi, hb⟩; have HI := Aside0.mk hi; have HB := Aside0.mk hb; clear hi hb)
  have hi := HI.out
  clear HI HX
  rcases hi with ⟨rfl, hall⟩ | ⟨j0, rfl, hj0, hp0, hlow⟩
  · have HA := Aside0.mk hall
    clear hall
    go_wp2
    go_ret
    refine ⟨_, rfl, ?_, HB.out.mono HS.out, fun k hk _ => HB.out.block k hk⟩
    have e : (l0.filter fun x => !impl_picked.p n x) = l0 := by
      rw [List.filter_eq_self]
      intro x hx
      obtain ⟨m, hm, rfl⟩ := List.getElem_of_mem hx
      have := HA.out m hm
      simp only [List.getD, List.getElem?_eq_getElem hm, Option.getD_some] at this
      rw [this]; rfl
    rw [e]
    exact Kd.R_below HR.out HB.out
  · have hne : ((j0 : Int) == -1) = false := beq_eq_false_iff_ne.2 (by omega)
    have P0 := Aside0.mk hp0
    have LW := Aside0.mk hlow
    have LJ := Aside0.mk hj0
    clear hp0 hlow hj0
    obtain ⟨g, cp, eo, gb5, gl5, cl5, HG5⟩ := Kd.R_form HR.out (by have := LJ.out; omega)
    injection eo with ea en ec
    subst ea
    subst ec
    clear en gl5 HG5
    have GB := Aside0.mk gb5
    clear gb5
    go_wp2
    go_loopg [5, 6, 7] l0.length (fun gg s5 s6 s7 wr => ∃ (i j : Nat) (ys : List S100), s5 = .int .i64 (i : Int) ∧ s6 = .int .i64 (j : Int) ∧ Aside0 (i < j ∧ j ≤ l0.length ∧ l0.length - j ≤ gg) ∧ Aside0 (ys.length = l0.length ∧ ys.take i = (l0.take j).filter (fun x => !impl_picked.p n x) ∧ ys.drop j = l0.drop j) ∧ Aside0 (Kd.R k100 100 wr base (fun _ => True) (.slice (some ⟨g, 0, none⟩) l0.length c) ys) ∧ Aside0 (Below base w wr) ∧ Aside0 (base ≤ wr.heap.size) ∧ Aside0 (Go.Proofs.YthgofcgkmdbcdaaH.KeepG w g wr))
    case atStart =>
      refine ⟨j0, j0 + 1, l0, rfl, ?_, ⟨by omega, by have := LJ.out; omega, by omega⟩, ⟨rfl, ?_, rfl⟩, ⟨Kd.R_below HR.out HB.out⟩, ⟨HB.out.mono HS.out⟩, ⟨Nat.le_trans HS.out HB.out.size⟩, ⟨Go.Proofs.YthgofcgkmdbcdaaH.KeepG.of g HB.out⟩⟩
      · have := LJ.out; have := HL.out
        first | rfl | (congr 1; omega) | (congr 1; unfold wrap64; omega) | go_num
      · have hj := LJ.out
        have hp := P0.out
        rw [List.take_add_one, List.filter_append]
        have e1 : (l0.take j0).filter (fun x => !impl_picked.p n x) = l0.take j0 := by
          rw [List.filter_eq_self]
          intro x hx
          obtain ⟨m, hm, rfl⟩ := List.getElem_of_mem hx
          have hm2 : m < j0 := by rw [List.length_take] at hm; omega
          have := LW.out m hm2
          simp only [List.getD, List.getElem?_eq_getElem (show m < l0.length by omega), Option.getD_some] at this
          rw [List.getElem_take, this]; rfl
        simp only [List.getD, List.getElem?_eq_getElem hj, Option.getD_some] at hp
        rw [e1, List.getElem?_eq_getElem hj]
        simp [hp]
    case round =>
      obtain ⟨i, j, ys, rfl, rfl, IJ, YS, HR2, HB2, HS2, KG2⟩ := hrel
      clear HR HB HS LJ P0 LW
      have HRS := Aside0.mk HS2.out
      by_cases hlt : j < l0.length
      · have hltz : (j : Int) < (l0.length : Int) := by omega
        obtain ⟨ce, hcl, hM, hcc, hfr⟩ := Kd.R_elem HR2.out z100 (j : Int) (by omega) hltz
        obtain rfl := k100_openM hM
        rw [Int.toNat_natCast] at hM hcc
        have hgl : g < wr.heap.size := by
          obtain ⟨g', cp', eo', _, gl', _⟩ := Kd.R_form HR2.out (by have := YS.out.1; omega)
          injection eo' with ea' _ _
          injection ea' with ea'
          injection ea' with ea'
          omega
        have GL := Aside0.mk hgl
        have JL := Aside0.mk hlt
        clear hcl hM hfr hgl hlt
        generalize hyx : ys.getD j z100 = x at *
        have YX := Aside0.mk hyx
        clear hyx
        have hx0 := hcc 0 _ rfl
        have hx1 := hcc 1 _ rfl
        have hx2 := hcc 2 _ rfl
        have hx3 := hcc 3 _ rfl
        simp only [show (k100).sz = 4 from rfl, Nat.add_zero] at hx0 hx1 hx2 hx3
        clear hcc
        go_upto_region 8 with ((with_reducible refine gate_dst (N := 7) rfl ?_); refine box_event ?hg (N := 7) ?hd (cs := #[.int .i64 0, .int .i64 0, .int .i64 0, .int .i64 0]) (t := 100) ?hr ?_; (case hd => rfl); (case hg => rfl); (case hr => first | (go_simp; done) | (go_simp; rfl)); intro gc hgc w5 hbox hb; have R5 := Aside0.mk (Kd.R_below HR2.out hb); have B5 := Aside0.mk (HB2.out.trans (hb.mono HS2.out)); have S5 := Aside0.mk (Nat.le_trans HS2.out hb.size); have KG5 := Aside0.mk (KG2.out.below hb); have BC := Aside0.mk hbox; have GC := Aside0.mk hgc; clear HR2 HB2 HS2 hb hgc hbox; have hc0 : w5.cell? ⟨gc, 0, none⟩ = some (.int .i64 0) := (blk_cell BC.out 0).trans rfl; have hc1 : w5.cell? ⟨gc, 1, none⟩ = some (.int .i64 0) := (blk_cell BC.out 1).trans rfl; have hc2 : w5.cell? ⟨gc, 2, none⟩ = some (.int .i64 0) := (blk_cell BC.out 2).trans rfl; have hc3 : w5.cell? ⟨gc, 3, none⟩ = some (.int .i64 0) := (blk_cell BC.out 3).trans rfl; have hfc0 := blk_frozen BC.out 0; have hfc1 := blk_frozen BC.out 1; have hfc2 := blk_frozen BC.out 2; have hfc3 := blk_frozen BC.out 3)
        have gne : gc ≠ g := by have := GC.out; have := GL.out; omega
        clear hx0 hx1 hx2 hx3 hc0 hc1 hc2 hc3 hfc0 hfc1 hfc2 hfc3
        have BC9 := Aside0.mk (blk_put (cs' := #[.int .i64 x.f0.f0, .int .i64 x.f0.f1, .int .i64 x.f0.f2, .int .i64 x.f1]) (blk_put (cs' := #[.int .i64 x.f0.f0, .int .i64 x.f0.f1, .int .i64 x.f0.f2, .int .i64 0]) (blk_put (cs' := #[.int .i64 x.f0.f0, .int .i64 x.f0.f1, .int .i64 0, .int .i64 0]) (blk_put (cs' := #[.int .i64 x.f0.f0, .int .i64 0, .int .i64 0, .int .i64 0]) BC.out 0 (.int .i64 x.f0.f0) rfl) 1 (.int .i64 x.f0.f1) rfl) 2 (.int .i64 x.f0.f2) rfl) 3 (.int .i64 x.f1) rfl)
        have W9 : ∃ w9, w9 = ((((w5.setCell { block := gc, off := 0 } (Value.int IntKind.i64 x.f0.f0)).setCell { block := gc, off := 1 } (Value.int IntKind.i64 x.f0.f1)).setCell { block := gc, off := 2 } (Value.int IntKind.i64 x.f0.f2)).setCell { block := gc, off := 3 } (Value.int IntKind.i64 x.f1)) := ⟨_, rfl⟩
        have far9 : ∀ k, k ≠ gc → ((((w5.setCell { block := gc, off := 0 } (Value.int IntKind.i64 x.f0.f0)).setCell { block := gc, off := 1 } (Value.int IntKind.i64 x.f0.f1)).setCell { block := gc, off := 2 } (Value.int IntKind.i64 x.f0.f2)).setCell { block := gc, off := 3 } (Value.int IntKind.i64 x.f1)).heap[k]? = w5.heap[k]? := fun k hk => by
          rw [Below.heap_setCell _ _ _ k hk, Below.heap_setCell _ _ _ k hk, Below.heap_setCell _ _ _ k hk, Below.heap_setCell _ _ _ k hk]
        have gcb : base ≤ gc := by have := GC.out; have := HRS.out; omega
        have B9 := Aside0.mk ((((B5.out.setCell (p := ⟨gc, 0, none⟩) gcb (.int .i64 x.f0.f0)).setCell (p := ⟨gc, 1, none⟩) gcb (.int .i64 x.f0.f1)).setCell (p := ⟨gc, 2, none⟩) gcb (.int .i64 x.f0.f2)).setCell (p := ⟨gc, 3, none⟩) gcb (.int .i64 x.f1))
        have gcw : w.heap.size ≤ gc := by have := GC.out; have := KG2.out.le; omega
        have KG9 := Aside0.mk ((((KG5.out.set (p := ⟨gc, 0, none⟩) (.inr gcw) (.int .i64 x.f0.f0)).set (p := ⟨gc, 1, none⟩) (.inr gcw) (.int .i64 x.f0.f1)).set (p := ⟨gc, 2, none⟩) (.inr gcw) (.int .i64 x.f0.f2)).set (p := ⟨gc, 3, none⟩) (.inr gcw) (.int .i64 x.f1))
        have R9 := Aside0.mk (Kd.R_mono (ok' := fun _ => True) (Kd.R_move (Kd.R_tight rfl R5.out) (fun k hk => by cases hk; exact far9 g gne.symm)) (fun _ _ => trivial))
        have S9 := Aside0.mk (show base ≤ ((((w5.setCell { block := gc, off := 0 } (Value.int IntKind.i64 x.f0.f0)).setCell { block := gc, off := 1 } (Value.int IntKind.i64 x.f0.f1)).setCell { block := gc, off := 2 } (Value.int IntKind.i64 x.f0.f2)).setCell { block := gc, off := 3 } (Value.int IntKind.i64 x.f1)).heap.size by simpa [World.setCell] using S5.out)
        clear W9 far9 gcb BC B5 R5 S5 KG5 KG2 gcw
        generalize ((((w5.setCell { block := gc, off := 0 } (Value.int IntKind.i64 x.f0.f0)).setCell { block := gc, off := 1 } (Value.int IntKind.i64 x.f0.f1)).setCell { block := gc, off := 2 } (Value.int IntKind.i64 x.f0.f2)).setCell { block := gc, off := 3 } (Value.int IntKind.i64 x.f1)) = w9 at *
        have hd0 : w9.cell? ⟨gc, 0, none⟩ = some (.int .i64 x.f0.f0) := (blk_cell BC9.out 0).trans rfl
        have hd1 : w9.cell? ⟨gc, 1, none⟩ = some (.int .i64 x.f0.f1) := (blk_cell BC9.out 1).trans rfl
        have hd2 : w9.cell? ⟨gc, 2, none⟩ = some (.int .i64 x.f0.f2) := (blk_cell BC9.out 2).trans rfl
        have hd3 : w9.cell? ⟨gc, 3, none⟩ = some (.int .i64 x.f1) := (blk_cell BC9.out 3).trans rfl
        obtain ⟨b, hb⟩ : ∃ b, impl_picked.p n x = b := ⟨_, rfl⟩
        have PB := Aside0.mk hb
        clear hb
        have hask := impl_picked.asks x n H4.out w9
        rw [PB.out] at hask
        have HA := Aside0.mk hask
        clear hask
        cases b with
        | true =>
          go_wp2_with (go_at_call 110; refine HA.out.mono ?_; rintro e w' ⟨rfl, hb⟩; have R10 := Aside0.mk (Kd.R_below R9.out hb); have B10 := Aside0.mk (B9.out.trans (hb.mono S9.out)); have S10 := Aside0.mk (Nat.le_trans S9.out hb.size); have KG10 := Aside0.mk (KG9.out.below hb); clear hb)
          go_roundg (l0.length - (j + 1))
          case measure => have := IJ.out; have := JL.out; omega
          case rel =>
            refine ⟨i, j + 1, ys, rfl, ?_, ⟨by have := IJ.out; omega, by have := JL.out; omega, Nat.le_refl _⟩, ⟨YS.out.1, ?_, ?_⟩, R10, B10, S10, KG10⟩
            · have := JL.out; have := HL.out
              first | rfl | (congr 1; omega) | (congr 1; unfold wrap64; omega) | go_num
            · have h1 := YS.out
              have h2 := Go.Proofs.YthgofcgkmdbcdaaH.skip_step (fun x => !impl_picked.p n x) z100 l0 ys i j JL.out h1.1 h1.2.1 h1.2.2 (by rw [YX.out, PB.out]; rfl)
              exact h2.1
            · have h1 := YS.out
              have h2 := Go.Proofs.YthgofcgkmdbcdaaH.skip_step (fun x => !impl_picked.p n x) z100 l0 ys i j JL.out h1.1 h1.2.1 h1.2.2 (by rw [YX.out, PB.out]; rfl)
              exact h2.2
        | false =>
          go_upto_region 9 with (go_at_call 110; refine HA.out.mono ?_; rintro e w10 ⟨rfl, hb⟩; have R10 := Aside0.mk (Kd.R_below R9.out hb); have BC10 := Aside0.mk (blk_below BC9.out hb); have B10 := Aside0.mk (B9.out.trans (hb.mono S9.out)); have S10 := Aside0.mk (Nat.le_trans S9.out hb.size); have KG10 := Aside0.mk (KG9.out.below hb); clear hb)
          clear hd0 hd1 hd2 hd3 R9 BC9 B9 S9 HA
          have hd0 : w10.cell? ⟨gc, 0, none⟩ = some (.int .i64 x.f0.f0) := (blk_cell BC10.out 0).trans rfl
          have hd1 : w10.cell? ⟨gc, 1, none⟩ = some (.int .i64 x.f0.f1) := (blk_cell BC10.out 1).trans rfl
          have hd2 : w10.cell? ⟨gc, 2, none⟩ = some (.int .i64 x.f0.f2) := (blk_cell BC10.out 2).trans rfl
          have hd3 : w10.cell? ⟨gc, 3, none⟩ = some (.int .i64 x.f1) := (blk_cell BC10.out 3).trans rfl
          have hil : (i : Int) < (l0.length : Int) := by have := IJ.out; have := JL.out; omega
          obtain ⟨ce, hcl, hM, hcc, hfr⟩ := Kd.R_elem R10.out z100 (i : Int) (by omega) hil
          obtain rfl := k100_openM hM
          have HP := Kd.R_seg R10.out (i : Int) (by omega) hil (seg := [.int .i64 x.f0.f0, .int .i64 x.f0.f1, .int .i64 x.f0.f2, .int .i64 x.f1]) (j := 0) hcl hcc (show 4 ≤ 4 from by decide) (x' := x) (k100_mkM _ _ _ x) (fun _ hk => hk)
          rw [Int.toNat_natCast] at hcc hfr HP
          have hy0 := hcc 0 _ rfl
          have hy1 := hcc 1 _ rfl
          have hy2 := hcc 2 _ rfl
          have hy3 := hcc 3 _ rfl
          have hf0 := hfr 0
          have hf1 := hfr 1
          have hf2 := hfr 2
          have hf3 := hfr 3
          simp only [show (k100).sz = 4 from rfl, Nat.add_zero] at hy0 hy1 hy2 hy3 hf0 hf1 hf2 hf3 HP
          have H1 := Aside0.mk HP.1
          clear hcl hM hcc hfr HP
          generalize (ys.getD i z100).f0.f0 = q0 at *
          generalize (ys.getD i z100).f0.f1 = q1 at *
          generalize (ys.getD i z100).f0.f2 = q2 at *
          generalize (ys.getD i z100).f1 = q3 at *
          have B11 := Aside0.mk ((((B10.out.setCell (p := ⟨g, i * 4, none⟩) GB.out (.int .i64 x.f0.f0)).setCell (p := ⟨g, i * 4 + 1, none⟩) GB.out (.int .i64 x.f0.f1)).setCell (p := ⟨g, i * 4 + 2, none⟩) GB.out (.int .i64 x.f0.f2)).setCell (p := ⟨g, i * 4 + 3, none⟩) GB.out (.int .i64 x.f1))
          have KG11 := Aside0.mk ((((KG10.out.set (p := ⟨g, i * 4, none⟩) (.inl rfl) (.int .i64 x.f0.f0)).set (p := ⟨g, i * 4 + 1, none⟩) (.inl rfl) (.int .i64 x.f0.f1)).set (p := ⟨g, i * 4 + 2, none⟩) (.inl rfl) (.int .i64 x.f0.f2)).set (p := ⟨g, i * 4 + 3, none⟩) (.inl rfl) (.int .i64 x.f1))
          go_wp2
          go_roundg (l0.length - (j + 1))
          case measure => have := IJ.out; have := JL.out; omega
          case rel =>
            have h1 := YS.out
            have h2 := Go.Proofs.YthgofcgkmdbcdaaH.keep_step (fun x => !impl_picked.p n x) z100 l0 ys i j IJ.out.1 JL.out h1.1 h1.2.1 h1.2.2 (by rw [YX.out, PB.out]; rfl)
            rw [YX.out] at h2
            refine ⟨i + 1, j + 1, ys.set i x, ?_, ?_, ⟨by have := IJ.out; omega, by have := JL.out; omega, Nat.le_refl _⟩, ⟨h2⟩, ⟨H1.out⟩, B11, ⟨by simpa [World.setCell] using S10.out⟩, KG11⟩
            · have := JL.out; have := HL.out; have := IJ.out
              first | rfl | (congr 1; omega) | (congr 1; unfold wrap64; omega) | go_num
            · have := JL.out; have := HL.out
              first | rfl | (congr 1; omega) | (congr 1; unfold wrap64; omega) | go_num
      · have hltz : ¬ (j : Int) < (l0.length : Int) := by omega
        have hj : j = l0.length := by have := IJ.out; omega
        have hij := IJ.out.1
        subst hj
        have hil : (i : Int) < (l0.length : Int) := by omega
        have hile : (i : Int) ≤ (l0.length : Int) := by omega
        have hcap : l0.length ≤ c := (Kd.R_reads' HR2.out).2.1
        have hic : (i : Int) ≤ (c : Int) := by omega
        have hilc : (l0.length : Int) ≤ (c : Int) := by omega
        obtain ⟨i0, hi, hz0, hz1, hz2⟩ := info_parts info100
        have hcell : ∀ q, q < (l0.length - i) * 4 → (wr.cell? ⟨g, i * 4 + q, none⟩).isSome = true ∧ wr.frozen? ⟨g, i * 4 + q, none⟩ = false := by
          intro q hq
          obtain ⟨ce, hcl, hM, hcc, hfr⟩ := Kd.R_elem HR2.out z100 ((i + q / 4 : Nat) : Int) (by omega) (by omega)
          rw [Int.toNat_natCast] at hcc hfr
          have e : (i + q / 4) * 4 + q % 4 = i * 4 + q := by omega
          have hlt : q % 4 < ce.length := by rw [hcl]; exact Nat.mod_lt _ (by decide)
          have h1 := hcc (q % 4) _ (List.getElem?_eq_getElem hlt)
          have h2 := hfr (q % 4)
          simp only [show (k100).sz = 4 from rfl, e] at h1 h2
          exact ⟨by rw [h1]; rfl, h2⟩
        obtain ⟨vs, hcl⟩ := Go.Proofs.YthgofcgkmdbcdaaH.run_clear_row (P := Try.prog) wr 65 100 i0 _ Try.underlying65 hi hz0 (by decide) g (i * 4) (l0.length - i) (c - i) (fun q hq => (hcell q hq).1) (fun q hq => (hcell q hq).2)
        have RC := Aside0.mk (Go.Proofs.YthgofcgkmdbcdaaH.R_clear HR2.out i (by omega) (i * 4) vs (Nat.le_refl _))
        have YS2 := YS
        clear hcell hi hz0 hz1 hz2 hcap
        go_wp2
        go_ret
        refine ⟨_, rfl, ?_, Go.Proofs.YthgofcgkmdbcdaaH.below_setCells GB.out vs _ HB2.out, fun k hk hne => (KG2.out.sets vs _).keep k hk (fun e => hne (by rw [e]; rfl))⟩
        have h1 := YS.out.2.1
        rw [List.take_of_length_le (Nat.le_refl _)] at h1
        have h2 := RC.out
        rw [h1] at h2
        exact h2
def impl_picked.may (l : List S100) (is : List Bool) (but : Int) (i : Nat) (b : Int) : Bool := !(is.getD i false) && (decide ((l.getD i z100).f0.f0 ≠ but) && (decide (b < 0) || decide ((l.getD i z100).f1 < (l.getD b.toNat z100).f1)))
def impl_picked.bst (l : List S100) (is : List Bool) (but : Int) : Nat → Nat → Int → Int
  | 0, _, b => b
  | d + 1, i, b => impl_picked.bst l is but d (i + 1) (if impl_picked.may l is but i b = true then (i : Int) else b)
theorem impl_picked.bst_lt (l : List S100) (is : List Bool) (but : Int) : ∀ (d i : Nat) (b : Int), b < (l.length : Int) → i + d = l.length → impl_picked.bst l is but d i b < (l.length : Int)
  | 0, _, b, h, _ => h
  | d + 1, i, b, h, hd => by
    rw [impl_picked.bst]
    refine impl_picked.bst_lt l is but d (i + 1) _ ?_ (by omega)
    split <;> omega
def impl_picked.pk (l : List S100) (but : Int) : Nat → List S100 → List S54 → List Bool → Option (List S100 × List S54)
  | 0, out, facts, _ => some (out, facts)
  | q + 1, out, facts, is => if impl_picked.bst l is but l.length 0 (-1) < 0 then some (out, facts) else (impl_withFact.f facts (l.getD (impl_picked.bst l is but l.length 0 (-1)).toNat z100).f0.f0 (l.getD (impl_picked.bst l is but l.length 0 (-1)).toNat z100).f0.f1 (l.getD (impl_picked.bst l is but l.length 0 (-1)).toNat z100).f0.f2).bind fun facts' => impl_picked.pk l but q (out.set (impl_picked.bst l is but l.length 0 (-1)).toNat (⟨(out.getD (impl_picked.bst l is but l.length 0 (-1)).toNat z100).f0, wrap64 ((out.getD (impl_picked.bst l is but l.length 0 (-1)).toNat z100).f1 + 1)⟩ : S100)) facts' (is.set (impl_picked.bst l is but l.length 0 (-1)).toNat true)
def impl_picked.f (l0 : List S100) (but : Int) : Option (List S100 × List S54) := if l0.length ≤ 1048576 then (impl_picked.pk l0 but 3 l0 [] (List.replicate l0.length false)).bind fun p => some (p.1.filter (fun x => !impl_picked.p 4 x), p.2) else none
set_option maxHeartbeats 8000000 in
set_option maxRecDepth 100000 in
theorem impl_picked.calls (A0 : Option Addr) (c0 : Nat) (l0 : List S100) (a1 : Int) (r1 : List S100) (r2 : List S54) (w : World) (hr0 : Kd.C k100 w A0 l0.length l0) (hc0 : l0.length ≤ c0) (h : impl_picked.f l0 a1 = some (r1, r2)) :
    Calls Try.prog 82 #[.slice A0 l0.length c0, .int .i64 a1] w fun e w' => ∃ v0_ v1_ : Value, e = .returned (.tuple #[v0_, v1_]) ∧ Kd.R k100 100 w' w.heap.size (fun _ => True) v0_ r1 ∧ Kd.R k54 54 w' w.heap.size (fun _ => True) v1_ r2 ∧ Below w.heap.size w w' := by
  have hue_ := Try.underlying100
  have huf_ := Try.underlying54
  have HR0 := Aside0.mk hr0
  have HC0 := Aside0.mk hc0
  clear hr0 hc0
  unfold impl_picked.f at h
  by_cases hl : l0.length ≤ 1048576
  · rw [if_pos hl] at h
    replace h := Option.bind_eq_some_iff.mp h
    obtain ⟨⟨out, facts⟩, hp, h⟩ := h
    obtain ⟨rfl, rfl⟩ := Prod.mk.inj (Option.some.inj h)
    clear h
    have HL := Aside0.mk hl
    have AL := Aside0.mk (show impl_Rumor_108.f l0 = some l0 by unfold impl_Rumor_108.f; rw [if_pos (by omega)])
    have HP := Aside0.mk hp
    have hmk : (0 : Int) ≤ (l0.length : Int) := by omega
    clear hl hp
    go_enter Try.func82, Try.ntmps82
    go_wp2_with (first | (go_at_call 108; refine (impl_Rumor_108.calls A0 c0 l0 l0 _ HR0.out HC0.out AL.out).mono ?_; rintro e w1 ⟨v6, rfl, ho, hb⟩; have RV := Aside0.mk ho; have HB1 := Aside0.mk hb; clear ho hb) | ((with_reducible refine gate_dst (N := 14) rfl ?_); refine Kd.R_lit k54 _ 54 ?hg (N := 14) ?hd (xs := ([] : List S54)) (inner := []) (ok := fun _ => True) (okp := fun _ => True) ?hr ?hp (fun _ hk => hk) trivial (Below.refl _ _) (Nat.le_refl _) (by simp) ?_; (case hd => rfl); (case hg => rfl); (case hr => first | (go_simp; done) | (go_simp; rfl)); (case hp => exact (Reps.none _ _)); intro v7 w2 ho hb hg_ hnew_; clear hg_ hnew_; have RF := Aside0.mk (Kd.R_lower ho (below_size HB1.out)); have RV2 := Aside0.mk (Kd.R_below RV.out hb); have HB2 := Aside0.mk (below_step HB1.out hb); clear ho hb RV HB1) | ((with_reducible refine gate_dst (N := 17) rfl ?_); refine Kd.R_make Kd.bool _ 4 rfl (N := 17) rfl 117 _ _ rfl (l0.length : Int) rfl rfl Try.underlying117 (.bool false) 1 info4 rfl (by decide) (by omega) false (ok := fun _ => True) (okp := fun _ => True) rfl (fun _ hk => hk) trivial hmk (by have := HL.out; omega) (Below.refl _ _) (Nat.le_refl _) ?_; intro v8 w3 ho hb hg_ hnew_; clear hg_ hnew_; rw [Int.toNat_natCast] at ho; have RB := Aside0.mk (Kd.R_lower ho (below_size HB2.out)); have RV3 := Aside0.mk (Kd.R_below RV2.out hb); have RF3 := Aside0.mk (Kd.R_below RF.out hb); have HB3 := Aside0.mk (below_step HB2.out hb); clear ho hb RV2 RF HB2))
    have hlen : (List.replicate l0.length false).length = l0.length := List.length_replicate
    go_loopg [7, 18] 3 (fun gg s7 s18 wr => ∃ (q : Nat) (o : List S100) (fs : List S54) (is : List Bool), s18 = .int .i64 (q : Int) ∧ Aside0 (q ≤ 3 ∧ 3 - q ≤ gg ∧ o.length = l0.length ∧ is.length = l0.length) ∧ Aside0 (impl_picked.pk l0 a1 (3 - q) o fs is = some (out, facts)) ∧ Aside0 (Kd.R k100 100 wr w.heap.size (fun _ => True) v6 o) ∧ Aside0 (Kd.R k54 54 wr w.heap.size (fun _ => True) s7 fs) ∧ Aside0 (Kd.R Kd.bool 4 wr w.heap.size (fun _ => True) v8 is) ∧ Aside0 (Below w.heap.size w wr))
    case atStart => exact ⟨0, l0, [], List.replicate l0.length false, rfl, ⟨by omega, by omega, rfl, hlen⟩, HP, RV3, RF3, RB, HB3⟩
    case round =>
      obtain ⟨q, o, fs, is, rfl, Q, PK, RO, RF4, RB4, HB4⟩ := hrel
      clear HP RV3 RF3 RB HB3
      by_cases hq : q < 3
      · have hqz : (q : Int) < 3 := by omega
        have hq0 : (0 : Int) ≤ (q : Int) := by omega
        have hpk := PK.out
        rw [show 3 - q = (2 - q) + 1 by omega, impl_picked.pk] at hpk
        have PQ := Aside0.mk hpk
        have QQ := Aside0.mk hq
        obtain ⟨bf, hbf⟩ : ∃ bf, bf = impl_picked.bst l0 is a1 l0.length 0 (-1) := ⟨_, rfl⟩
        have hbl := impl_picked.bst_lt l0 is a1 l0.length 0 (-1) (by omega) (by omega)
        rw [← hbf] at hpk hbl
        have BF := Aside0.mk hbf
        have BL := Aside0.mk hbl
        have PK2 := Aside0.mk hpk
        clear hpk PK PQ hbf hbl hq
        go_wp2
        go_loopg [9, 22] l0.length (fun gg s9 s22 wr2 => ∃ (i : Nat) (b : Int), s9 = .int .i64 b ∧ s22 = .int .i64 (i : Int) ∧ Aside0 (i ≤ l0.length ∧ l0.length - i ≤ gg ∧ -1 ≤ b ∧ b < (l0.length : Int)) ∧ Aside0 (impl_picked.bst l0 is a1 (l0.length - i) i b = bf) ∧ Aside0 (Below wr.heap.size wr wr2))
        case atStart => exact ⟨0, -1, rfl, rfl, ⟨by omega, by omega, by omega, by omega⟩, ⟨BF.out.symm⟩, ⟨Below.refl _ _⟩⟩
        case round =>
          obtain ⟨i, b, rfl, rfl, IJ, BS, HB5⟩ := hrel
          have HB6 := Aside0.mk (below_step HB4.out HB5.out)
          have RO5 := Aside0.mk (Kd.R_below RO.out HB5.out)
          have RF5 := Aside0.mk (Kd.R_below RF4.out HB5.out)
          have RB5 := Aside0.mk (Kd.R_below RB4.out HB5.out)
          by_cases hlt : i < l0.length
          · have hltz : (i : Int) < (l0.length : Int) := by omega
            have hi0 : (0 : Int) ≤ (i : Int) := by omega
            have hbs := BS.out
            rw [show l0.length - i = (l0.length - (i + 1)) + 1 by omega, impl_picked.bst] at hbs
            have BT := Aside0.mk hbs
            have IL := Aside0.mk hlt
            obtain ⟨ad, e1, hx0, hx1, hx2, hx3⟩ := at_T100 (Kd.C_below HR0.out HB6.out) (i : Int) hi0 hltz
            cases e1
            rw [Int.toNat_natCast] at hx0 hx1 hx2 hx3
            have hd : rd_T100 l0 (i : Int) = l0.getD i z100 := by simp [rd_T100]
            rw [hd] at hx0 hx1 hx2 hx3
            clear hbs hlt hd
            obtain ⟨x, hxx⟩ : ∃ x, x = l0.getD i z100 := ⟨_, rfl⟩
            rw [← hxx] at hx0 hx1 hx2 hx3
            have XX := Aside0.mk hxx
            clear hxx
            go_upto_region 9 with ((with_reducible refine gate_dst (N := 11) rfl ?_); refine box_event ?hg (N := 11) ?hd (cs := #[.int .i64 0, .int .i64 0, .int .i64 0, .int .i64 0]) (t := 100) ?hr ?_; (case hd => rfl); (case hg => rfl); (case hr => first | (go_simp; done) | (go_simp; rfl)); intro gc hgc w5 hbox hb; have BN := Aside0.mk hb; have BC := Aside0.mk hbox; have GC := Aside0.mk hgc; clear hb hgc hbox; have hc0 : w5.cell? ⟨gc, 0, none⟩ = some (.int .i64 0) := (blk_cell BC.out 0).trans rfl; have hc1 : w5.cell? ⟨gc, 1, none⟩ = some (.int .i64 0) := (blk_cell BC.out 1).trans rfl; have hc2 : w5.cell? ⟨gc, 2, none⟩ = some (.int .i64 0) := (blk_cell BC.out 2).trans rfl; have hc3 : w5.cell? ⟨gc, 3, none⟩ = some (.int .i64 0) := (blk_cell BC.out 3).trans rfl; have hfc0 := blk_frozen BC.out 0; have hfc1 := blk_frozen BC.out 1; have hfc2 := blk_frozen BC.out 2; have hfc3 := blk_frozen BC.out 3)
            clear hx0 hx1 hx2 hx3 hc0 hc1 hc2 hc3 hfc0 hfc1 hfc2 hfc3
            have BC9 := Aside0.mk (blk_put (cs' := #[.int .i64 x.f0.f0, .int .i64 x.f0.f1, .int .i64 x.f0.f2, .int .i64 x.f1]) (blk_put (cs' := #[.int .i64 x.f0.f0, .int .i64 x.f0.f1, .int .i64 x.f0.f2, .int .i64 0]) (blk_put (cs' := #[.int .i64 x.f0.f0, .int .i64 x.f0.f1, .int .i64 0, .int .i64 0]) (blk_put (cs' := #[.int .i64 x.f0.f0, .int .i64 0, .int .i64 0, .int .i64 0]) BC.out 0 (.int .i64 x.f0.f0) rfl) 1 (.int .i64 x.f0.f1) rfl) 2 (.int .i64 x.f0.f2) rfl) 3 (.int .i64 x.f1) rfl)
            have gcb : wr.heap.size ≤ gc := by rw [GC.out]; exact Nat.le_refl _
            have B9 := Aside0.mk ((((BN.out.setCell (p := ⟨gc, 0, none⟩) gcb (.int .i64 x.f0.f0)).setCell (p := ⟨gc, 1, none⟩) gcb (.int .i64 x.f0.f1)).setCell (p := ⟨gc, 2, none⟩) gcb (.int .i64 x.f0.f2)).setCell (p := ⟨gc, 3, none⟩) gcb (.int .i64 x.f1))
            clear gcb BC BN GC
            generalize ((((w5.setCell { block := gc, off := 0 } (Value.int IntKind.i64 x.f0.f0)).setCell { block := gc, off := 1 } (Value.int IntKind.i64 x.f0.f1)).setCell { block := gc, off := 2 } (Value.int IntKind.i64 x.f0.f2)).setCell { block := gc, off := 3 } (Value.int IntKind.i64 x.f1)) = w9 at *
            have hd0 : w9.cell? ⟨gc, 0, none⟩ = some (.int .i64 x.f0.f0) := (blk_cell BC9.out 0).trans rfl
            have hd3 : w9.cell? ⟨gc, 3, none⟩ = some (.int .i64 x.f1) := (blk_cell BC9.out 3).trans rfl
            have RB9 := Aside0.mk (Kd.R_below RB5.out B9.out)
            have B9r := Aside0.mk (below_step HB5.out B9.out)
            obtain ⟨g8, c8, rfl, _⟩ := Kd.R_form RB9.out (by have := Q.out; have := IL.out; omega)
            have hil8 : (i : Int) < (is.length : Int) := by have := Q.out; have := IL.out; omega
            obtain ⟨hs8, _⟩ := Kd.R_celln false RB9.out (i : Int) hi0 hil8
            rw [Int.toNat_natCast] at hs8
            have hrd8 : rdOf false is (i : Int) = is.getD i false := by simp [rdOf]
            rw [hrd8] at hs8
            clear hrd8
            have hb1 := IJ.out.2.2.1
            have hb2 := IJ.out.2.2.2
            have MAY := Aside0.mk (show impl_picked.may l0 is a1 i b = (!(is.getD i false) && (decide (x.f0.f0 ≠ a1) && (decide (b < 0) || decide (x.f1 < (l0.getD b.toNat z100).f1)))) by rw [impl_picked.may, ← XX.out])
            obtain ⟨s, hs⟩ : ∃ s, s = is.getD i false := ⟨_, rfl⟩
            rw [← hs] at hs8
            have SS := Aside0.mk hs
            clear hs
            cases s with
            | true =>
              have hm : impl_picked.may l0 is a1 i b = false := by rw [MAY.out]; rw [← SS.out]; rfl
              have hbt := BT.out
              rw [hm, if_neg (by decide)] at hbt
              have BT2 := Aside0.mk hbt
              clear hm hbt BT
              go_quiet (fail)
              go_wp2
              go_roundg (l0.length - (i + 1))
              case measure => have := IJ.out; have := IL.out; omega
              case rel => exact ⟨i + 1, b, rfl, by have := HL.out; have := IL.out; first | rfl | (congr 1; omega) | (congr 1; unfold wrap64; omega) | go_num, ⟨by have := IL.out; omega, Nat.le_refl _, by have := IJ.out; omega, by have := IJ.out; have := IL.out; omega⟩, BT2, ⟨pw_below_drewN B9r.out _⟩⟩
            | false =>
              by_cases hn : x.f0.f0 = a1
              · have hnb : (x.f0.f0 != a1) = false := by simp [hn]
                have HN := Aside0.mk hn
                clear hn
                have hm : impl_picked.may l0 is a1 i b = false := by rw [MAY.out]; rw [← SS.out, decide_eq_false (fun h => h HN.out)]; rfl
                have hbt := BT.out
                rw [hm, if_neg (by decide)] at hbt
                have BT2 := Aside0.mk hbt
                clear hm hbt BT
                go_quiet (fail)
                go_wp2
                go_roundg (l0.length - (i + 1))
                case measure => have := IJ.out; have := IL.out; omega
                case rel => exact ⟨i + 1, b, rfl, by have := HL.out; have := IL.out; first | rfl | (congr 1; omega) | (congr 1; unfold wrap64; omega) | go_num, ⟨by have := IL.out; omega, Nat.le_refl _, by have := IJ.out; omega, by have := IJ.out; have := IL.out; omega⟩, BT2, ⟨pw_below_drewN B9r.out _⟩⟩
              · have hnb : (x.f0.f0 != a1) = true := bne_iff_ne.2 hn
                have HN := Aside0.mk hn
                clear hn
                by_cases hb0 : b < 0
                · have hbd : decide (b < 0) = true := decide_eq_true hb0
                  have HB0 := Aside0.mk hb0
                  have hm : impl_picked.may l0 is a1 i b = true := by rw [MAY.out]; rw [← SS.out, decide_eq_true HN.out, decide_eq_true HB0.out]; rfl
                  have hbt := BT.out
                  rw [hm, if_pos rfl] at hbt
                  have BT2 := Aside0.mk hbt
                  clear hm hbt BT
                  go_quiet (fail)
                  go_wp2
                  go_roundg (l0.length - (i + 1))
                  case measure => have := IJ.out; have := IL.out; omega
                  case rel => exact ⟨i + 1, (i : Int), rfl, by have := HL.out; have := IL.out; first | rfl | (congr 1; omega) | (congr 1; unfold wrap64; omega) | go_num, ⟨by have := IL.out; omega, Nat.le_refl _, by have := IJ.out; omega, by have := IJ.out; have := IL.out; omega⟩, BT2, ⟨pw_below_drewN B9r.out _⟩⟩
                · have hbd : decide (b < 0) = false := decide_eq_false hb0
                  have hb3 : (0 : Int) ≤ b := by omega
                  obtain ⟨ad', e1', hy0, hy1, hy2, hy3⟩ := at_T100 (Kd.C_below HR0.out (below_step HB6.out B9.out)) b hb3 hb2
                  cases e1'
                  have hd : rd_T100 l0 b = l0.getD b.toNat z100 := rfl
                  rw [hd] at hy3
                  clear hy0 hy1 hy2 hd
                  have HB0 := Aside0.mk hb0
                  obtain ⟨y, hyy⟩ : ∃ y, y = l0.getD b.toNat z100 := ⟨_, rfl⟩
                  rw [← hyy] at hy3
                  have YY := Aside0.mk hyy
                  clear hyy hb0
                  by_cases hs1 : x.f1 < y.f1
                  · have hsd : decide (x.f1 < y.f1) = true := decide_eq_true hs1
                    have HS1 := Aside0.mk hs1
                    clear hs1
                    have hm : impl_picked.may l0 is a1 i b = true := by rw [MAY.out]; rw [← SS.out, decide_eq_true HN.out, decide_eq_false HB0.out, ← YY.out, decide_eq_true HS1.out]; rfl
                    have hbt := BT.out
                    rw [hm, if_pos rfl] at hbt
                    have BT2 := Aside0.mk hbt
                    clear hm hbt BT
                    go_quiet (fail)
                    go_wp2
                    go_roundg (l0.length - (i + 1))
                    case measure => have := IJ.out; have := IL.out; omega
                    case rel => exact ⟨i + 1, (i : Int), rfl, by have := HL.out; have := IL.out; first | rfl | (congr 1; omega) | (congr 1; unfold wrap64; omega) | go_num, ⟨by have := IL.out; omega, Nat.le_refl _, by have := IJ.out; omega, by have := IJ.out; have := IL.out; omega⟩, BT2, ⟨pw_below_drewN B9r.out _⟩⟩
                  · have hsd : decide (x.f1 < y.f1) = false := decide_eq_false hs1
                    have HS1 := Aside0.mk hs1
                    clear hs1
                    have hm : impl_picked.may l0 is a1 i b = false := by rw [MAY.out]; rw [← SS.out, decide_eq_true HN.out, decide_eq_false HB0.out, ← YY.out, decide_eq_false HS1.out]; rfl
                    have hbt := BT.out
                    rw [hm, if_neg (by decide)] at hbt
                    have BT2 := Aside0.mk hbt
                    clear hm hbt BT
                    go_quiet (fail)
                    go_wp2
                    go_roundg (l0.length - (i + 1))
                    case measure => have := IJ.out; have := IL.out; omega
                    case rel => exact ⟨i + 1, b, rfl, by have := HL.out; have := IL.out; first | rfl | (congr 1; omega) | (congr 1; unfold wrap64; omega) | go_num, ⟨by have := IL.out; omega, Nat.le_refl _, by have := IJ.out; omega, by have := IJ.out; have := IL.out; omega⟩, BT2, ⟨pw_below_drewN B9r.out _⟩⟩
          · have hltz : ¬ (i : Int) < (l0.length : Int) := by omega
            have hil : i = l0.length := by have := IJ.out; omega
            subst hil
            have hbs := BS.out
            rw [Nat.sub_self, impl_picked.bst] at hbs
            subst hbs
            have hbf := BL.out
            clear BS
            have RFa := Aside0.mk (Kd.R_mono (ok' := fun k => some k ≠ v6.ownBlock) (Kd.R_bound RF5.out) (fun k hk e => by
              obtain ⟨_, _, _, q', hq', cells, hcells⟩ := hk
              obtain ⟨inner2, ho2⟩ := Kd.R_own RO5.out
              obtain ⟨cells2, hc2⟩ := own_typed ho2 k e.symm
              rw [hcells] at hc2
              injection hc2 with hc2
              injection hc2 with _ hc2
              subst hc2
              revert hq'
              decide))
            by_cases hb0 : b < 0
            · have hpk := PK2.out
              rw [if_pos hb0] at hpk
              obtain ⟨rfl, rfl⟩ := Prod.mk.inj (Option.some.inj hpk)
              have hbd : decide (b < 0) = true := decide_eq_true hb0
              have H0 := Aside0.mk hb0
              clear hb0 hpk hbf
              go_wp2_with (go_at_call 109; refine (impl_picked.deletes v6 o 4 rfl w.heap.size _ RO5.out (below_size HB6.out) (by have := Q.out; have := HL.out; omega)).mono ?_; rintro e w8 ⟨v9, rfl, ho, hb, hk⟩; have RD := Aside0.mk ho; have HB8 := Aside0.mk (HB6.out.trans hb); have RF8 := Aside0.mk (Kd.R_step RFa.out (fun k hk1 hk2 => hk k hk2 hk1)); clear ho hb hk)
              go_ret2
              exact ⟨_, _, rfl, RD.out, Kd.R_mono RF8.out (fun _ _ => trivial), HB8.out⟩
            · have hpk := PK2.out
              rw [if_neg hb0] at hpk
              replace hpk := Option.bind_eq_some_iff.mp hpk
              obtain ⟨facts', hw, hpk⟩ := hpk
              have WF := Aside0.mk hw
              have PK3 := Aside0.mk hpk
              have hbd : decide (b < 0) = false := decide_eq_false hb0
              have hb3 : (0 : Int) ≤ b := by omega
              obtain ⟨bn, rfl⟩ := Int.eq_ofNat_of_zero_le hb3
              rw [Int.toNat_natCast] at WF PK3
              have hbo : (bn : Int) < (o.length : Int) := by have := Q.out; omega
              have hbi : (bn : Int) < (is.length : Int) := by have := Q.out; omega
              have hbl : bn < l0.length := by omega
              clear hpk hw hb0 PK2 RFa
              obtain ⟨g8, c8, rfl, _, _, cl8, hg8⟩ := Kd.R_form RB5.out (by omega)
              obtain ⟨g6, c6, rfl, gb6, _, cl6, hg6⟩ := Kd.R_form RO5.out (by omega)
              obtain ⟨A7, c7, rfl⟩ := Kd.R_slice RF5.out
              have gb8 : w.heap.size ≤ g8 := Kd.R_base RB5.out g8 rfl
              obtain ⟨hs8, hf8⟩ := Kd.R_celln false RB5.out (bn : Int) hb3 hbi
              have RBa := Aside0.mk (Kd.R_putn RB5.out (bn : Int) true)
              rw [Int.toNat_natCast] at hs8 hf8 RBa
              have ROa := Aside0.mk (Kd.R_set RO5.out hg8 (by decide) bn (.bool true))
              have RFb := Aside0.mk (Kd.R_set RF5.out hg8 (by decide) bn (.bool true))
              have HBa := Aside0.mk (HB6.out.setCell (p := ⟨g8, bn, none⟩) gb8 (.bool true))
              have h6a : (wr.setCell ⟨g8, bn, none⟩ (.bool true)).heap[g6]? = some (.cells cl6 100 (0, 0)) := blk_far hg6 (p := ⟨g8, bn, none⟩) (blk_ne hg6 hg8 (by decide)) (.bool true)
              obtain ⟨ad, e1, hy0, hy1, hy2, hy3⟩ := at_T100 (Kd.C_below HR0.out HB6.out) (bn : Int) hb3 hbf
              cases e1
              rw [Int.toNat_natCast] at hy0 hy1 hy2 hy3
              have hd : rd_T100 l0 (bn : Int) = l0.getD bn z100 := by simp [rd_T100]
              rw [hd] at hy0 hy1 hy2
              clear hy3 hd
              generalize rdOf false is (bn : Int) = q8 at *
              have BNO := Aside0.mk hbo
              have G68 := Aside0.mk (And.intro hg8 (And.intro hg6 h6a))
              have GBB := Aside0.mk (And.intro gb6 gb8)
              go_upto_region 14 with (fail)
              clear hs8 hf8 hy0 hy1 hy2
              generalize wr.setCell { block := g8, off := bn } (Value.bool true) = wa at *
              obtain ⟨ce, hcl, hM, hcc, hfr⟩ := Kd.R_elem ROa.out z100 (bn : Int) hb3 hbo
              obtain rfl := k100_openM hM
              have HPp := Kd.R_seg ROa.out (bn : Int) hb3 hbo (seg := [.int .i64 (wrap64 ((o.getD bn z100).f1 + 1))]) (j := 3) hcl hcc (show 4 ≤ 4 from by decide) (x' := (⟨(o.getD bn z100).f0, wrap64 ((o.getD bn z100).f1 + 1)⟩ : S100)) (by rw [Int.toNat_natCast]; exact k100_mkM _ _ _ (⟨(o.getD bn z100).f0, wrap64 ((o.getD bn z100).f1 + 1)⟩ : S100)) (fun _ hk => hk)
              rw [Int.toNat_natCast] at hcc hfr HPp
              have hz3 := hcc 3 _ rfl
              have hzf := hfr 3
              simp only [show (k100).sz = 4 from rfl] at hz3 hzf HPp
              have ROb := Aside0.mk HPp.1
              have RBb := Aside0.mk (Kd.R_set RBa.out G68.out.2.2 (by decide) (bn * 4 + 3) (.int .i64 (wrap64 ((o.getD bn z100).f1 + 1))))
              have RFc := Aside0.mk (Kd.R_set RFb.out G68.out.2.2 (by decide) (bn * 4 + 3) (.int .i64 (wrap64 ((o.getD bn z100).f1 + 1))))
              have HBb := Aside0.mk (HBa.out.setCell (p := ⟨g6, bn * 4 + 3, none⟩) GBB.out.1 (.int .i64 (wrap64 ((o.getD bn z100).f1 + 1))))
              clear hcl hM hcc hfr HPp
              generalize hsx : (o.getD bn z100).f1 = sx at *
              have SX := Aside0.mk hsx
              clear hsx
              go_upto_region 15 with (fail)
              clear hz3 hzf ROa RBa RFb
              have hww : (wa.setCell ⟨g6, bn * 4 + 3, none⟩ (.int .i64 (wrap64 (sx + 1)))) = wa.setCells g6 (bn * 4 + 3) [.int .i64 (wrap64 (sx + 1))] := rfl
              rw [← hww] at ROb
              clear hww
              generalize wa.setCell { block := g6, off := bn * 4 + 3 } (Value.int IntKind.i64 (wrap64 (sx + 1))) = wb at *
              obtain ⟨ad', e1, hy0, hy1, hy2, hy3⟩ := at_T100 (Kd.C_below HR0.out HBb.out) (bn : Int) hb3 hbf
              cases e1
              rw [Int.toNat_natCast] at hy0 hy1 hy2 hy3
              have hd : rd_T100 l0 (bn : Int) = l0.getD bn z100 := by simp [rd_T100]
              rw [hd] at hy0 hy1 hy2
              clear hy3 hd
              have hfl := Aside0.mk (Kd.R_reads' RFc.out)
              obtain ⟨xl, hxl⟩ : ∃ xl, xl = l0.getD bn z100 := ⟨_, rfl⟩
              rw [← hxl] at hy0 hy1 hy2
              have WF2 := Aside0.mk (show impl_withFact.f fs xl.f0.f0 xl.f0.f1 xl.f0.f2 = some facts' by rw [hxl]; exact WF.out)
              clear hxl WF
              go_wp2_with (go_at_call 106; (with_reducible refine (impl_withFact.calls A7 c7 fs xl.f0.f0 xl.f0.f1 xl.f0.f2 facts' wb hfl.out.2.2 hfl.out.2.1 WF2.out).mono ?_); rintro e w9 ⟨v10, rfl, ho, hb⟩; have RFd := Aside0.mk (Kd.R_lower ho (below_size HBb.out)); have RBd := Aside0.mk (Kd.R_below RBb.out hb); have ROd := Aside0.mk (Kd.R_below ROb.out hb); have HBd := Aside0.mk (below_step HBb.out hb); clear ho hb)
              go_roundg (3 - (q + 1))
              case measure => have := Q.out; have := QQ.out; omega
              case rel =>
                refine ⟨q + 1, o.set bn (⟨(o.getD bn z100).f0, wrap64 (sx + 1)⟩ : S100), facts', is.set bn true, ?_, ⟨by have := QQ.out; omega, Nat.le_refl _, by have := Q.out; simp; omega, by have := Q.out; simp; omega⟩, ⟨?_⟩, ROd, RFd, RBd, HBd⟩
                · have := QQ.out
                  first | rfl | (congr 1; omega) | (congr 1; unfold wrap64; omega) | go_num
                · have h1 := PK3.out
                  rw [show 3 - (q + 1) = 2 - q by omega]
                  exact h1
      · have hqz : ¬ (q : Int) < 3 := by omega
        have hq3 : q = 3 := by have := Q.out; omega
        subst hq3
        have hpk := PK.out
        rw [Nat.sub_self, impl_picked.pk] at hpk
        obtain ⟨rfl, rfl⟩ := Prod.mk.inj (Option.some.inj hpk)
        clear hpk PK
        have RFa := Aside0.mk (Kd.R_mono (ok' := fun k => some k ≠ v6.ownBlock) (Kd.R_bound RF4.out) (fun k hk e => by
          obtain ⟨_, _, _, q', hq', cells, hcells⟩ := hk
          obtain ⟨inner2, ho2⟩ := Kd.R_own RO.out
          obtain ⟨cells2, hc2⟩ := own_typed ho2 k e.symm
          rw [hcells] at hc2
          injection hc2 with hc2
          injection hc2 with _ hc2
          subst hc2
          revert hq'
          decide))
        go_wp2_with (go_at_call 109; refine (impl_picked.deletes v6 o 4 rfl w.heap.size _ RO.out (below_size HB4.out) (by have := Q.out; have := HL.out; omega)).mono ?_; rintro e w8 ⟨v9, rfl, ho, hb, hk⟩; have RD := Aside0.mk ho; have HB8 := Aside0.mk (HB4.out.trans hb); have RF8 := Aside0.mk (Kd.R_step RFa.out (fun k hk1 hk2 => hk k hk2 hk1)); clear ho hb hk)
        go_ret2
        exact ⟨_, _, rfl, RD.out, Kd.R_mono RF8.out (fun _ _ => trivial), HB8.out⟩
  · rw [if_neg hl] at h
    cases h
def impl_RumorPick.f (k : Nat) (l0 : List (S100)) (a1 : Int) : Option ((List (S100)) × (List (S54)) × Int) := (impl_Rumor_80.f l0).bind fun t254 => (if t254 = true then (some (([] : List (S100)), ([] : List (S54)), 2)) else ((impl_RumorsRight.f k l0).bind fun t255 => (if t255 = true then ((impl_picked.f l0 a1).bind fun bt256 => (some (bt256.1, bt256.2, 0))) else (some (([] : List (S100)), ([] : List (S54)), 1)))))
theorem impl_RumorPick.mono : ∀ a0 a1 k, LeO (impl_RumorPick.f k a0 a1) (impl_RumorPick.f (k + 1) a0 a1) := by
  intro a0 a1 k
  unfold impl_RumorPick.f
  repeat' first
      | (with_reducible exact impl_RumorsRight.mono _ _)
      | (with_reducible exact LeO.refl _)
      | (with_reducible exact LeO.none _)
      | (with_reducible refine LeO.ite ?_ ?_)
      | (with_reducible refine LeO.bind ?_ (fun _ => ?_))
      | exact impl_RumorsRight.mono _ _
      | exact LeO.none _
      | refine LeO.ite ?_ ?_
      | refine LeO.bind ?_ (fun _ => ?_)
set_option maxHeartbeats 8000000 in
set_option maxRecDepth 100000 in
theorem impl_RumorPick.calls (k : Nat) (A0 : Option Addr) (c0 : Nat) (l0 : List (S100)) (a1 : Int) (r1 : List (S100)) (r2 : List (S54)) (r3 : Int) (w : World) (hr0 : Kd.C k100 w A0 l0.length l0) (hc0 : l0.length ≤ c0) (h : impl_RumorPick.f k l0 a1 = some (r1, r2, r3)) :
    Calls Try.prog 40 #[.slice A0 l0.length c0, .int .i64 a1] w fun e w' => ∃ v0_ v1_ : Value, e = .returned (.agg #[v0_, v1_, .int .i64 r3]) ∧ Kd.R k100 100 w' w.heap.size (fun _ => True) v0_ r1 ∧ Kd.R k54 54 w' w.heap.size (fun _ => True) v1_ r2 ∧ Below w.heap.size w w' := by
  have hu67 := Try.underlying67
  have HR0 := Aside0.mk hr0
  have HC0 := Aside0.mk hc0
  clear hr0 hc0
  have HB := Aside0.mk (Below.refl w.heap.size w)
  have H : ((impl_Rumor_80.f l0).bind fun t254 => (if t254 = true then (some (([] : List (S100)), ([] : List (S54)), 2)) else ((impl_RumorsRight.f k l0).bind fun t255 => (if t255 = true then ((impl_picked.f l0 a1).bind fun bt256 => (some (bt256.1, bt256.2, 0))) else (some (([] : List (S100)), ([] : List (S54)), 1)))))) = some (r1, r2, r3) := h
  clear h
  replace H := Option.bind_eq_some_iff.mp H
  obtain ⟨t254, A30, H⟩ := H
  replace H : (if t254 = true then (some (([] : List (S100)), ([] : List (S54)), 2)) else ((impl_RumorsRight.f k l0).bind fun t255 => (if t255 = true then ((impl_picked.f l0 a1).bind fun bt256 => (some (bt256.1, bt256.2, 0))) else (some (([] : List (S100)), ([] : List (S54)), 1))))) = some (r1, r2, r3) := H
  have A3 := Aside0.mk A30
  clear A30
  by_cases c4 : t254 = true
  · subst c4
    have H1 : (some (([] : List (S100)), ([] : List (S54)), 2)) = some (r1, r2, r3) := by rw [if_pos rfl] at H; exact H
    clear H
    have H := H1
    clear H1
    simp only [Option.some.injEq, Prod.mk.injEq] at H
    obtain ⟨rfl, rfl, rfl⟩ := H
    go_enter Try.func40, Try.ntmps40
    go_wp2_with (first | ((with_reducible refine gate_dst (N := 4) rfl ?_); refine box_event ?hg (N := 4) ?hd (cs := #[.slice none 0 0, .slice none 0 0, .int .i64 0]) (t := 67) ?hr ?_; (case hd => rfl); (case hg => rfl); (case hr => first | (go_simp; done) | (go_simp; rfl)); intro gb253 hg w5 hbox hb; have n0_ := Aside0.mk (below_step (by repeat (first | (with_reducible first | exact HB.out | apply below_alloc | apply pw_below_drewN | apply below_drew1) | exact HB.out)) hb); have n1_ := Aside0.mk (hbox); have n2_ := Aside0.mk ((by rw [hg]; exact (below_size (by repeat (first | (with_reducible first | exact HB.out | apply below_alloc | apply pw_below_drewN | apply below_drew1) | exact HB.out))) : w.heap.size ≤ gb253)); have n3_ := Aside0.mk ((by rw [hg]; exact (below_size (by repeat (first | (with_reducible first | exact HB.out | apply below_alloc | apply pw_below_drewN | apply below_drew1) | exact HB.out))) : w.heap.size ≤ gb253)); clear HB; have HB := n0_; have BK253 := n1_; have GW253 := n2_; have GE253 := n3_; clear n0_ n1_ n2_ n3_; clear hb hbox hg) | ((with_reducible refine gate_callee (f := 80) rfl ?_); refine goesL_ (some 9) rfl rfl Try.func80 (by kernel_rfl) rfl #[.slice A0 l0.length c0] rfl (by (try simp only [List.map_toArray, List.map_cons, List.map_nil]); first | done | rfl | (simp only [List.length_drop, List.length_take]; rfl)) ?_; (with_reducible refine (impl_Rumor_80.calls _ _ l0 true _ ?side1 ?side2 A3.out).mono ?_); (case side1 => repeat (first | exact (Kd.C_below HR0.out HB.out) | (with_reducible refine Kd.C_alloc ?_ _) | (with_reducible refine Kd.C_drewN ?_ _) | (with_reducible refine Kd.C_drew ?_))); (case side2 => exact HC0.out); rintro e w' ⟨rfl, ⟨nd, rfl⟩⟩; refine ⟨_, rfl, ?_⟩; (try (rw [drewN_self w5]; generalize hq_ : World.drewN w5 _ = w5; have n0_ : Aside0 (w5.heap[gb253]? = some (.cells #[.slice none 0 0, .slice none 0 0, .int .i64 0] 67 (0, 0))) := ⟨by rw [← hq_]; exact (by (with_reducible repeat (first | refine blk_drewN ?_ _ | refine blk_drew ?_ | refine blk_alloc ?_ _)); exact BK253.out)⟩; have n1_ : Aside0 (Below w.heap.size w w5) := ⟨by rw [← hq_]; exact (by repeat (first | (with_reducible first | exact HB.out | apply below_alloc | apply pw_below_drewN | apply below_drew1 | refine below_set ?_ GE253.out) | exact HB.out))⟩; clear BK253 HB hq_; have BK253 := n0_; have HB := n1_; clear n0_ n1_)); have hcz6_0 : w5.cell? ⟨gb253, 0, none⟩ = some (.slice none 0 0) := (blk_cell BK253.out 0).trans rfl; have hcz6_1 : w5.cell? ⟨gb253, 1, none⟩ = some (.slice none 0 0) := (blk_cell BK253.out 1).trans rfl; have hcz6_2 : w5.cell? ⟨gb253, 2, none⟩ = some (.int .i64 0) := (blk_cell BK253.out 2).trans rfl; have hfz6_0 := blk_frozen BK253.out 0; have hfz6_1 := blk_frozen BK253.out 1; have hfz6_2 := blk_frozen BK253.out 2))
    refine bodyPost_ret (results_cell_row rfl _ _ gb253 67 #[.slice none 0 0, .slice none 0 0, .int .i64 2] (0, 0) _ rfl (by (with_reducible repeat (first | refine blk_drewN ?_ _ | refine blk_drew ?_ | refine blk_alloc ?_ _)); refine blk_put (cs := #[.slice none 0 0, .slice none 0 0, .int .i64 0]) ?_ 2 _ rfl; (with_reducible repeat (first | refine blk_drewN ?_ _ | refine blk_drew ?_ | refine blk_alloc ?_ _)); refine blk_put (cs := #[.slice none 0 0, .slice none 0 0, .int .i64 0]) ?_ 1 _ rfl; (with_reducible repeat (first | refine blk_drewN ?_ _ | refine blk_drew ?_ | refine blk_alloc ?_ _)); refine blk_put (cs := #[.slice none 0 0, .slice none 0 0, .int .i64 0]) ?_ 0 _ rfl; (with_reducible repeat (first | refine blk_drewN ?_ _ | refine blk_drew ?_ | refine blk_alloc ?_ _)); exact BK253.out) Try.underlying67 rfl (by kernel_rfl)) rfl ?_
    exact ⟨_, _, by first | rfl | (simp [errW_none, errW_some] <;> rfl) | (simp [*, errW_none, errW_some] <;> rfl), by first | exact Kd.R_nil _ _ _ _ _ | exact Kd.N_nil _ _ _ _ _ | exact Kd.V_nil _ _ _ _ _ | exact Kd.Q_nil _ _ _ _ _ | exact Kd.S_nil _ _ _ _ _, by first | exact Kd.R_nil _ _ _ _ _ | exact Kd.N_nil _ _ _ _ _ | exact Kd.V_nil _ _ _ _ _ | exact Kd.Q_nil _ _ _ _ _ | exact Kd.S_nil _ _ _ _ _, by repeat (first | (with_reducible first | exact HB.out | apply below_alloc | apply pw_below_drewN | apply below_drew1 | refine below_set ?_ GE253.out) | exact HB.out)⟩
  · replace c4 := Bool.eq_false_iff.mpr c4
    subst c4
    have H1 : ((impl_RumorsRight.f k l0).bind fun t255 => (if t255 = true then ((impl_picked.f l0 a1).bind fun bt256 => (some (bt256.1, bt256.2, 0))) else (some (([] : List (S100)), ([] : List (S54)), 1)))) = some (r1, r2, r3) := by rw [if_neg (show ¬ (false = true) by decide)] at H; exact H
    clear H
    have H := H1
    clear H1
    replace H := Option.bind_eq_some_iff.mp H
    obtain ⟨t255, A70, H⟩ := H
    replace H : (if t255 = true then ((impl_picked.f l0 a1).bind fun bt256 => (some (bt256.1, bt256.2, 0))) else (some (([] : List (S100)), ([] : List (S54)), 1))) = some (r1, r2, r3) := H
    have A7 := Aside0.mk A70
    clear A70
    by_cases c8 : t255 = true
    · subst c8
      have H1 : ((impl_picked.f l0 a1).bind fun bt256 => (some (bt256.1, bt256.2, 0))) = some (r1, r2, r3) := by rw [if_pos rfl] at H; exact H
      clear H
      have H := H1
      clear H1
      replace H := Option.bind_eq_some_iff.mp H
      obtain ⟨⟨t256, t257⟩, A90, H⟩ := H
      replace H : (some (t256, t257, 0)) = some (r1, r2, r3) := H
      have A9 := Aside0.mk A90
      clear A90
      simp only [Option.some.injEq, Prod.mk.injEq] at H
      obtain ⟨rfl, rfl, rfl⟩ := H
      go_enter Try.func40, Try.ntmps40
      go_wp2_with (first | ((with_reducible refine gate_dst (N := 4) rfl ?_); refine box_event ?hg (N := 4) ?hd (cs := #[.slice none 0 0, .slice none 0 0, .int .i64 0]) (t := 67) ?hr ?_; (case hd => rfl); (case hg => rfl); (case hr => first | (go_simp; done) | (go_simp; rfl)); intro gb253 hg w10 hbox hb; have n0_ := Aside0.mk (below_step (by repeat (first | (with_reducible first | exact HB.out | apply below_alloc | apply pw_below_drewN | apply below_drew1) | exact HB.out)) hb); have n1_ := Aside0.mk (hbox); have n2_ := Aside0.mk ((by rw [hg]; exact (below_size (by repeat (first | (with_reducible first | exact HB.out | apply below_alloc | apply pw_below_drewN | apply below_drew1) | exact HB.out))) : w.heap.size ≤ gb253)); have n3_ := Aside0.mk ((by rw [hg]; exact (below_size (by repeat (first | (with_reducible first | exact HB.out | apply below_alloc | apply pw_below_drewN | apply below_drew1) | exact HB.out))) : w.heap.size ≤ gb253)); clear HB; have HB := n0_; have BK253 := n1_; have GW253 := n2_; have GE253 := n3_; clear n0_ n1_ n2_ n3_; clear hb hbox hg) | ((with_reducible refine gate_callee (f := 80) rfl ?_); refine goesL_ (some 9) rfl rfl Try.func80 (by kernel_rfl) rfl #[.slice A0 l0.length c0] rfl (by (try simp only [List.map_toArray, List.map_cons, List.map_nil]); first | done | rfl | (simp only [List.length_drop, List.length_take]; rfl)) ?_; (with_reducible refine (impl_Rumor_80.calls _ _ l0 false _ ?side1 ?side2 A3.out).mono ?_); (case side1 => repeat (first | exact (Kd.C_below HR0.out HB.out) | (with_reducible refine Kd.C_alloc ?_ _) | (with_reducible refine Kd.C_drewN ?_ _) | (with_reducible refine Kd.C_drew ?_))); (case side2 => exact HC0.out); rintro e w' ⟨rfl, ⟨nd, rfl⟩⟩; refine ⟨_, rfl, ?_⟩; (try (rw [drewN_self w10]; generalize hq_ : World.drewN w10 _ = w10; have n0_ : Aside0 (w10.heap[gb253]? = some (.cells #[.slice none 0 0, .slice none 0 0, .int .i64 0] 67 (0, 0))) := ⟨by rw [← hq_]; exact (by (with_reducible repeat (first | refine blk_drewN ?_ _ | refine blk_drew ?_ | refine blk_alloc ?_ _)); exact BK253.out)⟩; have n1_ : Aside0 (Below w.heap.size w w10) := ⟨by rw [← hq_]; exact (by repeat (first | (with_reducible first | exact HB.out | apply below_alloc | apply pw_below_drewN | apply below_drew1 | refine below_set ?_ GE253.out) | exact HB.out))⟩; clear BK253 HB hq_; have BK253 := n0_; have HB := n1_; clear n0_ n1_))) | ((with_reducible refine gate_callee (f := 81) rfl ?_); refine goesL_ (some 13) rfl rfl Try.func81 (by kernel_rfl) rfl #[.slice A0 l0.length c0] rfl (by (try simp only [List.map_toArray, List.map_cons, List.map_nil]); first | done | rfl | (simp only [List.length_drop, List.length_take]; rfl)) ?_; (with_reducible refine (impl_RumorsRight.calls k _ _ l0 true _ ?side1 ?side2 A7.out).mono ?_); (case side1 => repeat (first | exact (Kd.C_below HR0.out HB.out) | (with_reducible refine Kd.C_alloc ?_ _) | (with_reducible refine Kd.C_drewN ?_ _) | (with_reducible refine Kd.C_drew ?_))); (case side2 => exact HC0.out); rintro e w11 ⟨rfl, hb⟩; refine ⟨_, rfl, ?_⟩; have n0_ := Aside0.mk (blk_below (g := gb253) (o := .cells #[.slice none 0 0, .slice none 0 0, .int .i64 0] 67 (0, 0)) (by (with_reducible repeat (first | refine blk_drewN ?_ _ | refine blk_drew ?_ | refine blk_alloc ?_ _)); exact BK253.out) hb); have n1_ := Aside0.mk (below_step (by repeat (first | (with_reducible first | exact HB.out | apply below_alloc | apply pw_below_drewN | apply below_drew1 | refine below_set ?_ GE253.out) | exact HB.out)) hb); clear BK253; clear HB; have BK253 := n0_; have HB := n1_; clear n0_ n1_; (try clear hb); (try clear hb2); (try clear hk); (try clear hi)) | ((with_reducible refine gate_callee (f := 82) rfl ?_); refine goesL_ (some 19) rfl rfl Try.func82 (by kernel_rfl) rfl #[.slice A0 l0.length c0, .int .i64 a1] rfl (by (try simp only [List.map_toArray, List.map_cons, List.map_nil]); first | done | rfl | (simp only [List.length_drop, List.length_take]; rfl)) ?_; (with_reducible refine (impl_picked.calls _ _ l0 a1 t256 t257 _ ?side1 ?side2 A9.out).mono ?_); (case side1 => repeat (first | exact (Kd.C_below HR0.out HB.out) | (with_reducible refine Kd.C_alloc ?_ _) | (with_reducible refine Kd.C_drewN ?_ _) | (with_reducible refine Kd.C_drew ?_))); (case side2 => exact HC0.out); rintro e w12 ⟨v258, v260, rfl, ho0, ho1, hb⟩; refine ⟨_, rfl, ?_⟩; have n0_ := Aside0.mk (Kd.R_lower ho0 (below_size (by repeat (first | (with_reducible first | exact HB.out | apply below_alloc | apply pw_below_drewN | apply below_drew1 | refine below_set ?_ GE253.out) | exact HB.out)))); have n1_ := Aside0.mk (Kd.R_lower ho1 (below_size (by repeat (first | (with_reducible first | exact HB.out | apply below_alloc | apply pw_below_drewN | apply below_drew1 | refine below_set ?_ GE253.out) | exact HB.out)))); have n2_ := Aside0.mk (blk_below (g := gb253) (o := .cells #[.slice none 0 0, .slice none 0 0, .int .i64 0] 67 (0, 0)) (by (with_reducible repeat (first | refine blk_drewN ?_ _ | refine blk_drew ?_ | refine blk_alloc ?_ _)); exact BK253.out) hb); have n3_ := Aside0.mk (below_step (by repeat (first | (with_reducible first | exact HB.out | apply below_alloc | apply pw_below_drewN | apply below_drew1 | refine below_set ?_ GE253.out) | exact HB.out)) hb); clear BK253; clear HB; have HO259 := n0_; have HO261 := n1_; have BK253 := n2_; have HB := n3_; clear n0_ n1_ n2_ n3_; (try clear hb); (try clear hb2); (try clear hk); (try clear hi); (try clear ho0); (try clear ho1); obtain ⟨Ao13, co13, eo13⟩ := Kd.R_slice HO261.out; subst eo13; obtain ⟨Ao14, co14, eo14⟩ := Kd.R_slice HO259.out; subst eo14; have hcz15_0 : w12.cell? ⟨gb253, 0, none⟩ = some (.slice none 0 0) := (blk_cell BK253.out 0).trans rfl; have hcz15_1 : w12.cell? ⟨gb253, 1, none⟩ = some (.slice none 0 0) := (blk_cell BK253.out 1).trans rfl; have hcz15_2 : w12.cell? ⟨gb253, 2, none⟩ = some (.int .i64 0) := (blk_cell BK253.out 2).trans rfl; have hfz15_0 := blk_frozen BK253.out 0; have hfz15_1 := blk_frozen BK253.out 1; have hfz15_2 := blk_frozen BK253.out 2))
      refine bodyPost_ret (results_cell_row rfl _ _ gb253 67 #[.slice Ao14 t256.length co14, .slice Ao13 t257.length co13, .int .i64 0] (0, 0) _ rfl (by (with_reducible repeat (first | refine blk_drewN ?_ _ | refine blk_drew ?_ | refine blk_alloc ?_ _)); refine blk_put (cs := #[.slice Ao14 t256.length co14, .slice Ao13 t257.length co13, .int .i64 0]) ?_ 2 _ rfl; (with_reducible repeat (first | refine blk_drewN ?_ _ | refine blk_drew ?_ | refine blk_alloc ?_ _)); refine blk_put (cs := #[.slice Ao14 t256.length co14, .slice none 0 0, .int .i64 0]) ?_ 1 _ rfl; (with_reducible repeat (first | refine blk_drewN ?_ _ | refine blk_drew ?_ | refine blk_alloc ?_ _)); refine blk_put (cs := #[.slice none 0 0, .slice none 0 0, .int .i64 0]) ?_ 0 _ rfl; (with_reducible repeat (first | refine blk_drewN ?_ _ | refine blk_drew ?_ | refine blk_alloc ?_ _)); exact BK253.out) Try.underlying67 rfl (by kernel_rfl)) rfl ?_
      exact ⟨_, _, by first | rfl | (simp [errW_none, errW_some] <;> rfl) | (simp [*, errW_none, errW_some] <;> rfl), by (with_reducible repeat (first | apply Kd.R_alloc | apply Kd.R_drewN | apply Kd.R_drew)); exact Kd.R_mono (Kd.R_far (p := ⟨gb253, 2, none⟩) (Kd.R_far (p := ⟨gb253, 1, none⟩) (Kd.R_far (p := ⟨gb253, 0, none⟩) (Kd.R_types HO259.out BK253.out (by decide)) (fun _ hk => hk.2) (.slice Ao14 t256.length co14)) (fun _ hk => hk.2) (.slice Ao13 t257.length co13)) (fun _ hk => hk.2) (.int .i64 0)) (fun _ hk => trivial), by (with_reducible repeat (first | apply Kd.R_alloc | apply Kd.R_drewN | apply Kd.R_drew)); exact Kd.R_mono (Kd.R_far (p := ⟨gb253, 2, none⟩) (Kd.R_far (p := ⟨gb253, 1, none⟩) (Kd.R_far (p := ⟨gb253, 0, none⟩) (Kd.R_types HO261.out BK253.out (by decide)) (fun _ hk => hk.2) (.slice Ao14 t256.length co14)) (fun _ hk => hk.2) (.slice Ao13 t257.length co13)) (fun _ hk => hk.2) (.int .i64 0)) (fun _ hk => trivial), by repeat (first | (with_reducible first | exact HB.out | apply below_alloc | apply pw_below_drewN | apply below_drew1 | refine below_set ?_ GE253.out) | exact HB.out)⟩
    · replace c8 := Bool.eq_false_iff.mpr c8
      subst c8
      have H1 : (some (([] : List (S100)), ([] : List (S54)), 1)) = some (r1, r2, r3) := by rw [if_neg (show ¬ (false = true) by decide)] at H; exact H
      clear H
      have H := H1
      clear H1
      simp only [Option.some.injEq, Prod.mk.injEq] at H
      obtain ⟨rfl, rfl, rfl⟩ := H
      go_enter Try.func40, Try.ntmps40
      go_wp2_with (first | ((with_reducible refine gate_dst (N := 4) rfl ?_); refine box_event ?hg (N := 4) ?hd (cs := #[.slice none 0 0, .slice none 0 0, .int .i64 0]) (t := 67) ?hr ?_; (case hd => rfl); (case hg => rfl); (case hr => first | (go_simp; done) | (go_simp; rfl)); intro gb253 hg w16 hbox hb; have n0_ := Aside0.mk (below_step (by repeat (first | (with_reducible first | exact HB.out | apply below_alloc | apply pw_below_drewN | apply below_drew1) | exact HB.out)) hb); have n1_ := Aside0.mk (hbox); have n2_ := Aside0.mk ((by rw [hg]; exact (below_size (by repeat (first | (with_reducible first | exact HB.out | apply below_alloc | apply pw_below_drewN | apply below_drew1) | exact HB.out))) : w.heap.size ≤ gb253)); have n3_ := Aside0.mk ((by rw [hg]; exact (below_size (by repeat (first | (with_reducible first | exact HB.out | apply below_alloc | apply pw_below_drewN | apply below_drew1) | exact HB.out))) : w.heap.size ≤ gb253)); clear HB; have HB := n0_; have BK253 := n1_; have GW253 := n2_; have GE253 := n3_; clear n0_ n1_ n2_ n3_; clear hb hbox hg) | ((with_reducible refine gate_callee (f := 80) rfl ?_); refine goesL_ (some 9) rfl rfl Try.func80 (by kernel_rfl) rfl #[.slice A0 l0.length c0] rfl (by (try simp only [List.map_toArray, List.map_cons, List.map_nil]); first | done | rfl | (simp only [List.length_drop, List.length_take]; rfl)) ?_; (with_reducible refine (impl_Rumor_80.calls _ _ l0 false _ ?side1 ?side2 A3.out).mono ?_); (case side1 => repeat (first | exact (Kd.C_below HR0.out HB.out) | (with_reducible refine Kd.C_alloc ?_ _) | (with_reducible refine Kd.C_drewN ?_ _) | (with_reducible refine Kd.C_drew ?_))); (case side2 => exact HC0.out); rintro e w' ⟨rfl, ⟨nd, rfl⟩⟩; refine ⟨_, rfl, ?_⟩; (try (rw [drewN_self w16]; generalize hq_ : World.drewN w16 _ = w16; have n0_ : Aside0 (w16.heap[gb253]? = some (.cells #[.slice none 0 0, .slice none 0 0, .int .i64 0] 67 (0, 0))) := ⟨by rw [← hq_]; exact (by (with_reducible repeat (first | refine blk_drewN ?_ _ | refine blk_drew ?_ | refine blk_alloc ?_ _)); exact BK253.out)⟩; have n1_ : Aside0 (Below w.heap.size w w16) := ⟨by rw [← hq_]; exact (by repeat (first | (with_reducible first | exact HB.out | apply below_alloc | apply pw_below_drewN | apply below_drew1 | refine below_set ?_ GE253.out) | exact HB.out))⟩; clear BK253 HB hq_; have BK253 := n0_; have HB := n1_; clear n0_ n1_))) | ((with_reducible refine gate_callee (f := 81) rfl ?_); refine goesL_ (some 13) rfl rfl Try.func81 (by kernel_rfl) rfl #[.slice A0 l0.length c0] rfl (by (try simp only [List.map_toArray, List.map_cons, List.map_nil]); first | done | rfl | (simp only [List.length_drop, List.length_take]; rfl)) ?_; (with_reducible refine (impl_RumorsRight.calls k _ _ l0 false _ ?side1 ?side2 A7.out).mono ?_); (case side1 => repeat (first | exact (Kd.C_below HR0.out HB.out) | (with_reducible refine Kd.C_alloc ?_ _) | (with_reducible refine Kd.C_drewN ?_ _) | (with_reducible refine Kd.C_drew ?_))); (case side2 => exact HC0.out); rintro e w17 ⟨rfl, hb⟩; refine ⟨_, rfl, ?_⟩; have n0_ := Aside0.mk (blk_below (g := gb253) (o := .cells #[.slice none 0 0, .slice none 0 0, .int .i64 0] 67 (0, 0)) (by (with_reducible repeat (first | refine blk_drewN ?_ _ | refine blk_drew ?_ | refine blk_alloc ?_ _)); exact BK253.out) hb); have n1_ := Aside0.mk (below_step (by repeat (first | (with_reducible first | exact HB.out | apply below_alloc | apply pw_below_drewN | apply below_drew1 | refine below_set ?_ GE253.out) | exact HB.out)) hb); clear BK253; clear HB; have BK253 := n0_; have HB := n1_; clear n0_ n1_; (try clear hb); (try clear hb2); (try clear hk); (try clear hi); have hcz18_0 : w17.cell? ⟨gb253, 0, none⟩ = some (.slice none 0 0) := (blk_cell BK253.out 0).trans rfl; have hcz18_1 : w17.cell? ⟨gb253, 1, none⟩ = some (.slice none 0 0) := (blk_cell BK253.out 1).trans rfl; have hcz18_2 : w17.cell? ⟨gb253, 2, none⟩ = some (.int .i64 0) := (blk_cell BK253.out 2).trans rfl; have hfz18_0 := blk_frozen BK253.out 0; have hfz18_1 := blk_frozen BK253.out 1; have hfz18_2 := blk_frozen BK253.out 2))
      refine bodyPost_ret (results_cell_row rfl _ _ gb253 67 #[.slice none 0 0, .slice none 0 0, .int .i64 1] (0, 0) _ rfl (by (with_reducible repeat (first | refine blk_drewN ?_ _ | refine blk_drew ?_ | refine blk_alloc ?_ _)); refine blk_put (cs := #[.slice none 0 0, .slice none 0 0, .int .i64 0]) ?_ 2 _ rfl; (with_reducible repeat (first | refine blk_drewN ?_ _ | refine blk_drew ?_ | refine blk_alloc ?_ _)); refine blk_put (cs := #[.slice none 0 0, .slice none 0 0, .int .i64 0]) ?_ 1 _ rfl; (with_reducible repeat (first | refine blk_drewN ?_ _ | refine blk_drew ?_ | refine blk_alloc ?_ _)); refine blk_put (cs := #[.slice none 0 0, .slice none 0 0, .int .i64 0]) ?_ 0 _ rfl; (with_reducible repeat (first | refine blk_drewN ?_ _ | refine blk_drew ?_ | refine blk_alloc ?_ _)); exact BK253.out) Try.underlying67 rfl (by kernel_rfl)) rfl ?_
      exact ⟨_, _, by first | rfl | (simp [errW_none, errW_some] <;> rfl) | (simp [*, errW_none, errW_some] <;> rfl), by first | exact Kd.R_nil _ _ _ _ _ | exact Kd.N_nil _ _ _ _ _ | exact Kd.V_nil _ _ _ _ _ | exact Kd.Q_nil _ _ _ _ _ | exact Kd.S_nil _ _ _ _ _, by first | exact Kd.R_nil _ _ _ _ _ | exact Kd.N_nil _ _ _ _ _ | exact Kd.V_nil _ _ _ _ _ | exact Kd.Q_nil _ _ _ _ _ | exact Kd.S_nil _ _ _ _ _, by repeat (first | (with_reducible first | exact HB.out | apply below_alloc | apply pw_below_drewN | apply below_drew1 | refine below_set ?_ GE253.out) | exact HB.out)⟩
def laws_eqFact.f (a0_0 : Int) (a0_1 : Int) (a0_2 : Int) (a1_0 : Int) (a1_1 : Int) (a1_2 : Int) : Option (Bool) := if a0_0 = a1_0 then (if a0_1 = a1_1 then (if a0_2 = a1_2 then (some true) else (some false)) else (some false)) else (some false)
set_option maxHeartbeats 8000000 in
set_option maxRecDepth 100000 in
theorem laws_eqFact.calls (a0_0 : Int) (a0_1 : Int) (a0_2 : Int) (a1_0 : Int) (a1_1 : Int) (a1_2 : Int) (r : Bool) (w : World) (h : laws_eqFact.f a0_0 a0_1 a0_2 a1_0 a1_1 a1_2 = some r) :
    Calls Try.prog 74 #[.agg #[.int .i64 a0_0, .int .i64 a0_1, .int .i64 a0_2], .agg #[.int .i64 a1_0, .int .i64 a1_1, .int .i64 a1_2]] w fun e w' => e = .returned (.bool r) ∧ Below w.heap.size w w' := by
  have hu54 := Try.underlying54
  have HB := Aside0.mk (Below.refl w.heap.size w)
  have H : (if a0_0 = a1_0 then (if a0_1 = a1_1 then (if a0_2 = a1_2 then (some true) else (some false)) else (some false)) else (some false)) = some r := h
  clear h
  by_cases c3 : a0_0 = a1_0
  · rw [if_pos c3] at H
    have c3b0 : (a0_0 == a1_0) = true := beq_iff_eq.mpr c3
    have c3b1 : (a0_0 != a1_0) = false := bne_eq_false_iff_eq.mpr c3
    clear c3
    by_cases c4 : a0_1 = a1_1
    · rw [if_pos c4] at H
      have c4b0 : (a0_1 == a1_1) = true := beq_iff_eq.mpr c4
      have c4b1 : (a0_1 != a1_1) = false := bne_eq_false_iff_eq.mpr c4
      clear c4
      by_cases c5 : a0_2 = a1_2
      · rw [if_pos c5] at H
        have c5b0 : (a0_2 == a1_2) = true := beq_iff_eq.mpr c5
        have c5b1 : (a0_2 != a1_2) = false := bne_eq_false_iff_eq.mpr c5
        clear c5
        obtain rfl := Option.some.inj H
        go_enter Try.func74, Try.ntmps74
        go_wp2_with (first | ((with_reducible refine gate_dst (N := 2) rfl ?_); refine box_event ?hg (N := 2) ?hd (cs := #[.int .i64 a0_0, .int .i64 a0_1, .int .i64 a0_2]) (t := 54) ?hr ?_; (case hd => rfl); (case hg => rfl); (case hr => first | (go_simp; done) | (go_simp; rfl)); intro gb262 hg w6 hbox hb; have n0_ := Aside0.mk (below_step (by repeat (first | (with_reducible first | exact HB.out | apply below_alloc | apply pw_below_drewN | apply below_drew1) | exact HB.out)) hb); have n1_ := Aside0.mk (hbox); have n2_ := Aside0.mk ((by rw [hg]; exact (below_size (by repeat (first | (with_reducible first | exact HB.out | apply below_alloc | apply pw_below_drewN | apply below_drew1) | exact HB.out))) : w.heap.size ≤ gb262)); have n3_ := Aside0.mk ((by rw [hg]; exact (below_size (by repeat (first | (with_reducible first | exact HB.out | apply below_alloc | apply pw_below_drewN | apply below_drew1) | exact HB.out))) : w.heap.size ≤ gb262)); clear HB; have HB := n0_; have BK262 := n1_; have GW262 := n2_; have GE262 := n3_; clear n0_ n1_ n2_ n3_; clear hb hbox hg) | ((with_reducible refine gate_dst (N := 3) rfl ?_); refine box_event ?hg (N := 3) ?hd (cs := #[.int .i64 a1_0, .int .i64 a1_1, .int .i64 a1_2]) (t := 54) ?hr ?_; (case hd => rfl); (case hg => rfl); (case hr => first | (go_simp; done) | (go_simp; rfl)); intro gb263 hg w7 hbox hb; have n0_ := Aside0.mk (blk_below (g := gb262) (o := .cells #[.int .i64 a0_0, .int .i64 a0_1, .int .i64 a0_2] 54 (0, 0)) (by (with_reducible repeat (first | refine blk_drewN ?_ _ | refine blk_drew ?_ | refine blk_alloc ?_ _)); exact BK262.out) hb); have n1_ := Aside0.mk (below_step (by repeat (first | (with_reducible first | exact HB.out | apply below_alloc | apply pw_below_drewN | apply below_drew1 | refine below_set ?_ GE262.out) | exact HB.out)) hb); have n2_ := Aside0.mk (hbox); have n3_ := Aside0.mk ((by rw [hg]; exact (below_size (by repeat (first | (with_reducible first | exact HB.out | apply below_alloc | apply pw_below_drewN | apply below_drew1 | refine below_set ?_ GE262.out) | exact HB.out))) : w.heap.size ≤ gb263)); have n4_ := Aside0.mk ((by rw [hg]; exact (below_size (by repeat (first | (with_reducible first | exact HB.out | apply below_alloc | apply pw_below_drewN | apply below_drew1 | refine below_set ?_ GE262.out) | exact HB.out))) : w.heap.size ≤ gb263)); have n5_ := Aside0.mk ((by rw [hg]; exact Nat.ne_of_lt (blk_lt (g := gb262) (o := .cells #[.int .i64 a0_0, .int .i64 a0_1, .int .i64 a0_2] 54 (0, 0)) (by (with_reducible repeat (first | refine blk_drewN ?_ _ | refine blk_drew ?_ | refine blk_alloc ?_ _)); exact BK262.out)) : gb262 ≠ gb263)); have n6_ := Aside0.mk ((by rw [hg]; exact Nat.ne_of_gt (blk_lt (g := gb262) (o := .cells #[.int .i64 a0_0, .int .i64 a0_1, .int .i64 a0_2] 54 (0, 0)) (by (with_reducible repeat (first | refine blk_drewN ?_ _ | refine blk_drew ?_ | refine blk_alloc ?_ _)); exact BK262.out)) : gb263 ≠ gb262)); clear BK262; clear HB; have BK262 := n0_; have HB := n1_; have BK263 := n2_; have GW263 := n3_; have GE263 := n4_; have NB262_263 := n5_; have NB263_262 := n6_; clear n0_ n1_ n2_ n3_ n4_ n5_ n6_; clear hb hbox hg; have hnb8 := NB262_263.out; have hnc8 := NB263_262.out; have hcz9_0 : w7.cell? ⟨gb262, 0, none⟩ = some (.int .i64 a0_0) := (blk_cell BK262.out 0).trans rfl; have hcz9_1 : w7.cell? ⟨gb262, 1, none⟩ = some (.int .i64 a0_1) := (blk_cell BK262.out 1).trans rfl; have hcz9_2 : w7.cell? ⟨gb262, 2, none⟩ = some (.int .i64 a0_2) := (blk_cell BK262.out 2).trans rfl; have hfz9_0 := blk_frozen BK262.out 0; have hfz9_1 := blk_frozen BK262.out 1; have hfz9_2 := blk_frozen BK262.out 2; have hcz10_0 : w7.cell? ⟨gb263, 0, none⟩ = some (.int .i64 a1_0) := (blk_cell BK263.out 0).trans rfl; have hcz10_1 : w7.cell? ⟨gb263, 1, none⟩ = some (.int .i64 a1_1) := (blk_cell BK263.out 1).trans rfl; have hcz10_2 : w7.cell? ⟨gb263, 2, none⟩ = some (.int .i64 a1_2) := (blk_cell BK263.out 2).trans rfl; have hfz10_0 := blk_frozen BK263.out 0; have hfz10_1 := blk_frozen BK263.out 1; have hfz10_2 := blk_frozen BK263.out 2))
        go_ret
        exact ⟨by first | rfl | (simp [errW_none, errW_some] <;> rfl) | (simp [*, errW_none, errW_some] <;> rfl), by repeat (first | (with_reducible first | exact HB.out | apply below_alloc | apply pw_below_drewN | apply below_drew1 | refine below_set ?_ GE262.out | refine below_set ?_ GE263.out) | exact HB.out)⟩
      · rw [if_neg c5] at H
        have c5b0 : (a0_2 == a1_2) = false := beq_eq_false_iff_ne.mpr c5
        have c5b1 : (a0_2 != a1_2) = true := bne_iff_ne.mpr c5
        obtain rfl := Option.some.inj H
        go_enter Try.func74, Try.ntmps74
        go_wp2_with (first | ((with_reducible refine gate_dst (N := 2) rfl ?_); refine box_event ?hg (N := 2) ?hd (cs := #[.int .i64 a0_0, .int .i64 a0_1, .int .i64 a0_2]) (t := 54) ?hr ?_; (case hd => rfl); (case hg => rfl); (case hr => first | (go_simp; done) | (go_simp; rfl)); intro gb262 hg w11 hbox hb; have n0_ := Aside0.mk (below_step (by repeat (first | (with_reducible first | exact HB.out | apply below_alloc | apply pw_below_drewN | apply below_drew1) | exact HB.out)) hb); have n1_ := Aside0.mk (hbox); have n2_ := Aside0.mk ((by rw [hg]; exact (below_size (by repeat (first | (with_reducible first | exact HB.out | apply below_alloc | apply pw_below_drewN | apply below_drew1) | exact HB.out))) : w.heap.size ≤ gb262)); have n3_ := Aside0.mk ((by rw [hg]; exact (below_size (by repeat (first | (with_reducible first | exact HB.out | apply below_alloc | apply pw_below_drewN | apply below_drew1) | exact HB.out))) : w.heap.size ≤ gb262)); clear HB; have HB := n0_; have BK262 := n1_; have GW262 := n2_; have GE262 := n3_; clear n0_ n1_ n2_ n3_; clear hb hbox hg) | ((with_reducible refine gate_dst (N := 3) rfl ?_); refine box_event ?hg (N := 3) ?hd (cs := #[.int .i64 a1_0, .int .i64 a1_1, .int .i64 a1_2]) (t := 54) ?hr ?_; (case hd => rfl); (case hg => rfl); (case hr => first | (go_simp; done) | (go_simp; rfl)); intro gb263 hg w12 hbox hb; have n0_ := Aside0.mk (blk_below (g := gb262) (o := .cells #[.int .i64 a0_0, .int .i64 a0_1, .int .i64 a0_2] 54 (0, 0)) (by (with_reducible repeat (first | refine blk_drewN ?_ _ | refine blk_drew ?_ | refine blk_alloc ?_ _)); exact BK262.out) hb); have n1_ := Aside0.mk (below_step (by repeat (first | (with_reducible first | exact HB.out | apply below_alloc | apply pw_below_drewN | apply below_drew1 | refine below_set ?_ GE262.out) | exact HB.out)) hb); have n2_ := Aside0.mk (hbox); have n3_ := Aside0.mk ((by rw [hg]; exact (below_size (by repeat (first | (with_reducible first | exact HB.out | apply below_alloc | apply pw_below_drewN | apply below_drew1 | refine below_set ?_ GE262.out) | exact HB.out))) : w.heap.size ≤ gb263)); have n4_ := Aside0.mk ((by rw [hg]; exact (below_size (by repeat (first | (with_reducible first | exact HB.out | apply below_alloc | apply pw_below_drewN | apply below_drew1 | refine below_set ?_ GE262.out) | exact HB.out))) : w.heap.size ≤ gb263)); have n5_ := Aside0.mk ((by rw [hg]; exact Nat.ne_of_lt (blk_lt (g := gb262) (o := .cells #[.int .i64 a0_0, .int .i64 a0_1, .int .i64 a0_2] 54 (0, 0)) (by (with_reducible repeat (first | refine blk_drewN ?_ _ | refine blk_drew ?_ | refine blk_alloc ?_ _)); exact BK262.out)) : gb262 ≠ gb263)); have n6_ := Aside0.mk ((by rw [hg]; exact Nat.ne_of_gt (blk_lt (g := gb262) (o := .cells #[.int .i64 a0_0, .int .i64 a0_1, .int .i64 a0_2] 54 (0, 0)) (by (with_reducible repeat (first | refine blk_drewN ?_ _ | refine blk_drew ?_ | refine blk_alloc ?_ _)); exact BK262.out)) : gb263 ≠ gb262)); clear BK262; clear HB; have BK262 := n0_; have HB := n1_; have BK263 := n2_; have GW263 := n3_; have GE263 := n4_; have NB262_263 := n5_; have NB263_262 := n6_; clear n0_ n1_ n2_ n3_ n4_ n5_ n6_; clear hb hbox hg; have hnb13 := NB262_263.out; have hnc13 := NB263_262.out; have hcz14_0 : w12.cell? ⟨gb262, 0, none⟩ = some (.int .i64 a0_0) := (blk_cell BK262.out 0).trans rfl; have hcz14_1 : w12.cell? ⟨gb262, 1, none⟩ = some (.int .i64 a0_1) := (blk_cell BK262.out 1).trans rfl; have hcz14_2 : w12.cell? ⟨gb262, 2, none⟩ = some (.int .i64 a0_2) := (blk_cell BK262.out 2).trans rfl; have hfz14_0 := blk_frozen BK262.out 0; have hfz14_1 := blk_frozen BK262.out 1; have hfz14_2 := blk_frozen BK262.out 2; have hcz15_0 : w12.cell? ⟨gb263, 0, none⟩ = some (.int .i64 a1_0) := (blk_cell BK263.out 0).trans rfl; have hcz15_1 : w12.cell? ⟨gb263, 1, none⟩ = some (.int .i64 a1_1) := (blk_cell BK263.out 1).trans rfl; have hcz15_2 : w12.cell? ⟨gb263, 2, none⟩ = some (.int .i64 a1_2) := (blk_cell BK263.out 2).trans rfl; have hfz15_0 := blk_frozen BK263.out 0; have hfz15_1 := blk_frozen BK263.out 1; have hfz15_2 := blk_frozen BK263.out 2))
        go_ret
        exact ⟨by first | rfl | (simp [errW_none, errW_some] <;> rfl) | (simp [*, errW_none, errW_some] <;> rfl), by repeat (first | (with_reducible first | exact HB.out | apply below_alloc | apply pw_below_drewN | apply below_drew1 | refine below_set ?_ GE262.out | refine below_set ?_ GE263.out) | exact HB.out)⟩
    · rw [if_neg c4] at H
      have c4b0 : (a0_1 == a1_1) = false := beq_eq_false_iff_ne.mpr c4
      have c4b1 : (a0_1 != a1_1) = true := bne_iff_ne.mpr c4
      obtain rfl := Option.some.inj H
      go_enter Try.func74, Try.ntmps74
      go_wp2_with (first | ((with_reducible refine gate_dst (N := 2) rfl ?_); refine box_event ?hg (N := 2) ?hd (cs := #[.int .i64 a0_0, .int .i64 a0_1, .int .i64 a0_2]) (t := 54) ?hr ?_; (case hd => rfl); (case hg => rfl); (case hr => first | (go_simp; done) | (go_simp; rfl)); intro gb262 hg w16 hbox hb; have n0_ := Aside0.mk (below_step (by repeat (first | (with_reducible first | exact HB.out | apply below_alloc | apply pw_below_drewN | apply below_drew1) | exact HB.out)) hb); have n1_ := Aside0.mk (hbox); have n2_ := Aside0.mk ((by rw [hg]; exact (below_size (by repeat (first | (with_reducible first | exact HB.out | apply below_alloc | apply pw_below_drewN | apply below_drew1) | exact HB.out))) : w.heap.size ≤ gb262)); have n3_ := Aside0.mk ((by rw [hg]; exact (below_size (by repeat (first | (with_reducible first | exact HB.out | apply below_alloc | apply pw_below_drewN | apply below_drew1) | exact HB.out))) : w.heap.size ≤ gb262)); clear HB; have HB := n0_; have BK262 := n1_; have GW262 := n2_; have GE262 := n3_; clear n0_ n1_ n2_ n3_; clear hb hbox hg) | ((with_reducible refine gate_dst (N := 3) rfl ?_); refine box_event ?hg (N := 3) ?hd (cs := #[.int .i64 a1_0, .int .i64 a1_1, .int .i64 a1_2]) (t := 54) ?hr ?_; (case hd => rfl); (case hg => rfl); (case hr => first | (go_simp; done) | (go_simp; rfl)); intro gb263 hg w17 hbox hb; have n0_ := Aside0.mk (blk_below (g := gb262) (o := .cells #[.int .i64 a0_0, .int .i64 a0_1, .int .i64 a0_2] 54 (0, 0)) (by (with_reducible repeat (first | refine blk_drewN ?_ _ | refine blk_drew ?_ | refine blk_alloc ?_ _)); exact BK262.out) hb); have n1_ := Aside0.mk (below_step (by repeat (first | (with_reducible first | exact HB.out | apply below_alloc | apply pw_below_drewN | apply below_drew1 | refine below_set ?_ GE262.out) | exact HB.out)) hb); have n2_ := Aside0.mk (hbox); have n3_ := Aside0.mk ((by rw [hg]; exact (below_size (by repeat (first | (with_reducible first | exact HB.out | apply below_alloc | apply pw_below_drewN | apply below_drew1 | refine below_set ?_ GE262.out) | exact HB.out))) : w.heap.size ≤ gb263)); have n4_ := Aside0.mk ((by rw [hg]; exact (below_size (by repeat (first | (with_reducible first | exact HB.out | apply below_alloc | apply pw_below_drewN | apply below_drew1 | refine below_set ?_ GE262.out) | exact HB.out))) : w.heap.size ≤ gb263)); have n5_ := Aside0.mk ((by rw [hg]; exact Nat.ne_of_lt (blk_lt (g := gb262) (o := .cells #[.int .i64 a0_0, .int .i64 a0_1, .int .i64 a0_2] 54 (0, 0)) (by (with_reducible repeat (first | refine blk_drewN ?_ _ | refine blk_drew ?_ | refine blk_alloc ?_ _)); exact BK262.out)) : gb262 ≠ gb263)); have n6_ := Aside0.mk ((by rw [hg]; exact Nat.ne_of_gt (blk_lt (g := gb262) (o := .cells #[.int .i64 a0_0, .int .i64 a0_1, .int .i64 a0_2] 54 (0, 0)) (by (with_reducible repeat (first | refine blk_drewN ?_ _ | refine blk_drew ?_ | refine blk_alloc ?_ _)); exact BK262.out)) : gb263 ≠ gb262)); clear BK262; clear HB; have BK262 := n0_; have HB := n1_; have BK263 := n2_; have GW263 := n3_; have GE263 := n4_; have NB262_263 := n5_; have NB263_262 := n6_; clear n0_ n1_ n2_ n3_ n4_ n5_ n6_; clear hb hbox hg; have hnb18 := NB262_263.out; have hnc18 := NB263_262.out; have hcz19_0 : w17.cell? ⟨gb262, 0, none⟩ = some (.int .i64 a0_0) := (blk_cell BK262.out 0).trans rfl; have hcz19_1 : w17.cell? ⟨gb262, 1, none⟩ = some (.int .i64 a0_1) := (blk_cell BK262.out 1).trans rfl; have hcz19_2 : w17.cell? ⟨gb262, 2, none⟩ = some (.int .i64 a0_2) := (blk_cell BK262.out 2).trans rfl; have hfz19_0 := blk_frozen BK262.out 0; have hfz19_1 := blk_frozen BK262.out 1; have hfz19_2 := blk_frozen BK262.out 2; have hcz20_0 : w17.cell? ⟨gb263, 0, none⟩ = some (.int .i64 a1_0) := (blk_cell BK263.out 0).trans rfl; have hcz20_1 : w17.cell? ⟨gb263, 1, none⟩ = some (.int .i64 a1_1) := (blk_cell BK263.out 1).trans rfl; have hcz20_2 : w17.cell? ⟨gb263, 2, none⟩ = some (.int .i64 a1_2) := (blk_cell BK263.out 2).trans rfl; have hfz20_0 := blk_frozen BK263.out 0; have hfz20_1 := blk_frozen BK263.out 1; have hfz20_2 := blk_frozen BK263.out 2))
      go_ret
      exact ⟨by first | rfl | (simp [errW_none, errW_some] <;> rfl) | (simp [*, errW_none, errW_some] <;> rfl), by repeat (first | (with_reducible first | exact HB.out | apply below_alloc | apply pw_below_drewN | apply below_drew1 | refine below_set ?_ GE262.out | refine below_set ?_ GE263.out) | exact HB.out)⟩
  · rw [if_neg c3] at H
    have c3b0 : (a0_0 == a1_0) = false := beq_eq_false_iff_ne.mpr c3
    have c3b1 : (a0_0 != a1_0) = true := bne_iff_ne.mpr c3
    obtain rfl := Option.some.inj H
    go_enter Try.func74, Try.ntmps74
    go_wp2_with (first | ((with_reducible refine gate_dst (N := 2) rfl ?_); refine box_event ?hg (N := 2) ?hd (cs := #[.int .i64 a0_0, .int .i64 a0_1, .int .i64 a0_2]) (t := 54) ?hr ?_; (case hd => rfl); (case hg => rfl); (case hr => first | (go_simp; done) | (go_simp; rfl)); intro gb262 hg w21 hbox hb; have n0_ := Aside0.mk (below_step (by repeat (first | (with_reducible first | exact HB.out | apply below_alloc | apply pw_below_drewN | apply below_drew1) | exact HB.out)) hb); have n1_ := Aside0.mk (hbox); have n2_ := Aside0.mk ((by rw [hg]; exact (below_size (by repeat (first | (with_reducible first | exact HB.out | apply below_alloc | apply pw_below_drewN | apply below_drew1) | exact HB.out))) : w.heap.size ≤ gb262)); have n3_ := Aside0.mk ((by rw [hg]; exact (below_size (by repeat (first | (with_reducible first | exact HB.out | apply below_alloc | apply pw_below_drewN | apply below_drew1) | exact HB.out))) : w.heap.size ≤ gb262)); clear HB; have HB := n0_; have BK262 := n1_; have GW262 := n2_; have GE262 := n3_; clear n0_ n1_ n2_ n3_; clear hb hbox hg) | ((with_reducible refine gate_dst (N := 3) rfl ?_); refine box_event ?hg (N := 3) ?hd (cs := #[.int .i64 a1_0, .int .i64 a1_1, .int .i64 a1_2]) (t := 54) ?hr ?_; (case hd => rfl); (case hg => rfl); (case hr => first | (go_simp; done) | (go_simp; rfl)); intro gb263 hg w22 hbox hb; have n0_ := Aside0.mk (blk_below (g := gb262) (o := .cells #[.int .i64 a0_0, .int .i64 a0_1, .int .i64 a0_2] 54 (0, 0)) (by (with_reducible repeat (first | refine blk_drewN ?_ _ | refine blk_drew ?_ | refine blk_alloc ?_ _)); exact BK262.out) hb); have n1_ := Aside0.mk (below_step (by repeat (first | (with_reducible first | exact HB.out | apply below_alloc | apply pw_below_drewN | apply below_drew1 | refine below_set ?_ GE262.out) | exact HB.out)) hb); have n2_ := Aside0.mk (hbox); have n3_ := Aside0.mk ((by rw [hg]; exact (below_size (by repeat (first | (with_reducible first | exact HB.out | apply below_alloc | apply pw_below_drewN | apply below_drew1 | refine below_set ?_ GE262.out) | exact HB.out))) : w.heap.size ≤ gb263)); have n4_ := Aside0.mk ((by rw [hg]; exact (below_size (by repeat (first | (with_reducible first | exact HB.out | apply below_alloc | apply pw_below_drewN | apply below_drew1 | refine below_set ?_ GE262.out) | exact HB.out))) : w.heap.size ≤ gb263)); have n5_ := Aside0.mk ((by rw [hg]; exact Nat.ne_of_lt (blk_lt (g := gb262) (o := .cells #[.int .i64 a0_0, .int .i64 a0_1, .int .i64 a0_2] 54 (0, 0)) (by (with_reducible repeat (first | refine blk_drewN ?_ _ | refine blk_drew ?_ | refine blk_alloc ?_ _)); exact BK262.out)) : gb262 ≠ gb263)); have n6_ := Aside0.mk ((by rw [hg]; exact Nat.ne_of_gt (blk_lt (g := gb262) (o := .cells #[.int .i64 a0_0, .int .i64 a0_1, .int .i64 a0_2] 54 (0, 0)) (by (with_reducible repeat (first | refine blk_drewN ?_ _ | refine blk_drew ?_ | refine blk_alloc ?_ _)); exact BK262.out)) : gb263 ≠ gb262)); clear BK262; clear HB; have BK262 := n0_; have HB := n1_; have BK263 := n2_; have GW263 := n3_; have GE263 := n4_; have NB262_263 := n5_; have NB263_262 := n6_; clear n0_ n1_ n2_ n3_ n4_ n5_ n6_; clear hb hbox hg; have hnb23 := NB262_263.out; have hnc23 := NB263_262.out; have hcz24_0 : w22.cell? ⟨gb262, 0, none⟩ = some (.int .i64 a0_0) := (blk_cell BK262.out 0).trans rfl; have hcz24_1 : w22.cell? ⟨gb262, 1, none⟩ = some (.int .i64 a0_1) := (blk_cell BK262.out 1).trans rfl; have hcz24_2 : w22.cell? ⟨gb262, 2, none⟩ = some (.int .i64 a0_2) := (blk_cell BK262.out 2).trans rfl; have hfz24_0 := blk_frozen BK262.out 0; have hfz24_1 := blk_frozen BK262.out 1; have hfz24_2 := blk_frozen BK262.out 2; have hcz25_0 : w22.cell? ⟨gb263, 0, none⟩ = some (.int .i64 a1_0) := (blk_cell BK263.out 0).trans rfl; have hcz25_1 : w22.cell? ⟨gb263, 1, none⟩ = some (.int .i64 a1_1) := (blk_cell BK263.out 1).trans rfl; have hcz25_2 : w22.cell? ⟨gb263, 2, none⟩ = some (.int .i64 a1_2) := (blk_cell BK263.out 2).trans rfl; have hfz25_0 := blk_frozen BK263.out 0; have hfz25_1 := blk_frozen BK263.out 1; have hfz25_2 := blk_frozen BK263.out 2))
    go_ret
    exact ⟨by first | rfl | (simp [errW_none, errW_some] <;> rfl) | (simp [*, errW_none, errW_some] <;> rfl), by repeat (first | (with_reducible first | exact HB.out | apply below_alloc | apply pw_below_drewN | apply below_drew1 | refine below_set ?_ GE262.out | refine below_set ?_ GE263.out) | exact HB.out)⟩
end Go.Proofs.Ythgofcgkmdbcdaa.PFnExactRumorPick
