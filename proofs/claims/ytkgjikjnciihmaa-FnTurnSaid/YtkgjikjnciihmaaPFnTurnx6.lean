import Derived.Test.YtkgjikjnciihmaaPFnTurnx0
import Derived.Test.YtkgjikjnciihmaaPFnTurnx5
namespace Go.Proofs.Ytkgjikjnciihmaa.PFnTurn
open Go.RowKit Go.Proofs.YtkgjikjnciihmaaW.PrintWords Go.Proofs.YtkgjikjnciihmaaW.PrintLast Go.Proofs.YtkgjikjnciihmaaW.PrintMore
attribute [local go_sem] max2_int min2_int max_two min_two max_three min_three max_four min_four   -- for this text's walks alone
set_option linter.unusedVariables false
set_option linter.unusedSimpArgs false
def impl_Shuffle.l0 : Nat → List Int → Int → Option (Int × List Int)
  | 0, l, s => some (s, l)
  | i + 1, l, s => (impl_Chance.f s (((i + 1 : Nat) : Int) + 1)).bind fun c => if 0 ≤ c.2 ∧ c.2 < (l.length : Int) then impl_Shuffle.l0 i ((l.set (i + 1) (rd l c.2)).set c.2.toNat (rd l ((i + 1 : Nat) : Int))) c.1 else none
def impl_Shuffle.f (l0 : List Int) (a1 : Int) : Option (Int × List Int) := (impl_longList_int64.f l0).bind fun t => if t = true then some (0, []) else (impl_isSeed.f a1).bind fun u => if u = true then (slices_Clone_int64_int64.f l0).bind fun l => impl_Shuffle.l0 (l.length - 1) l a1 else some (0, [])
theorem impl_Shuffle.keepD {w W W' : World} {gb t : Nat} {cs : Array Value} {nd : Nat} (hw : W' = W.drewN nd) (hb : Below w.heap.size w W) (hk : W.heap[gb]? = some (.cells cs t (0, 0))) : Below w.heap.size w W' ∧ W'.heap[gb]? = some (.cells cs t (0, 0)) := by
  subst hw
  exact ⟨pw_below_drewN hb nd, hk⟩
set_option maxHeartbeats 8000000 in
set_option maxRecDepth 100000 in
theorem impl_Shuffle.calls (A0 : Option Addr) (c0 : Nat) (l0 : List Int) (a1 : Int) (r1 : Int) (r2 : List Int) (w : World) (hr0 : Kd.C (Kd.int .i64) w A0 l0.length l0) (hc0 : l0.length ≤ c0) (h : impl_Shuffle.f l0 a1 = some (r1, r2)) :
    Calls Try.prog 38 #[.slice A0 l0.length c0, .int .i64 a1] w fun e w' => ∃ v1_ : Value, e = .returned (.agg #[.int .i64 r1, v1_]) ∧ Kd.R (Kd.int .i64) 2 w' w.heap.size (fun _ => True) v1_ r2 ∧ Below w.heap.size w w' := by
  have hu46 := Try.underlying51
  have hu58 := Try.underlying60
  have HR0 := Aside0.mk hr0
  have HC0 := Aside0.mk hc0
  clear hr0 hc0
  unfold impl_Shuffle.f at h
  replace h := Option.bind_eq_some_iff.mp h
  obtain ⟨t, ht, h⟩ := h
  have AT := Aside0.mk ht
  clear ht
  by_cases ct : t = true
  · subst ct
    rw [if_pos rfl] at h
    simp only [Option.some.injEq, Prod.mk.injEq] at h
    obtain ⟨rfl, rfl⟩ := h
    go_enter Try.func38, Try.ntmps38
    go_wp2_with (first | ((with_reducible refine gate_dst (N := 4) rfl ?_); refine box_event ?hg (N := 4) ?hd (cs := #[.int .i64 0, .slice none 0 0]) (t := 51) ?hr ?_; (case hd => rfl); (case hg => rfl); (case hr => first | (go_simp; done) | (go_simp; rfl)); intro gb hg w8 hbox hb; have HB := Aside0.mk hb; have BK := Aside0.mk hbox; have GE := Aside0.mk (show w.heap.size ≤ gb by rw [hg]; exact Nat.le_refl _); clear hb hbox hg) | (go_at_call 66; (with_reducible refine (impl_longList_int64.calls A0 c0 l0 true _ (Kd.C_below HR0.out HB.out) HC0.out AT.out).mono ?_); rintro e w' ⟨rfl, ⟨nd, hw_⟩⟩; obtain ⟨hb2_, hk2_⟩ := impl_Shuffle.keepD hw_ HB.out BK.out; clear HB BK hw_; have HB := Aside0.mk hb2_; have BK := Aside0.mk hk2_; clear hb2_ hk2_; (try clear hcz0 hcz1 hfz0 hfz1); have hcz0 : w'.cell? ⟨gb, 0, none⟩ = some (.int .i64 0) := (blk_cell BK.out 0).trans rfl; have hcz1 : w'.cell? ⟨gb, 1, none⟩ = some (.slice none 0 0) := (blk_cell BK.out 1).trans rfl; have hfz0 := blk_frozen BK.out 0; have hfz1 := blk_frozen BK.out 1))
    refine bodyPost_ret (results_cell_row rfl _ _ gb 51 #[.int .i64 0, .slice none 0 0] (0, 0) _ rfl (by refine blk_put (cs := #[.int .i64 0, .slice none 0 0]) ?_ 1 _ rfl; refine blk_put (cs := #[.int .i64 0, .slice none 0 0]) ?_ 0 _ rfl; exact BK.out) Try.underlying51 rfl (by kernel_rfl)) rfl ?_
    exact ⟨_, rfl, Kd.R_nil _ _ _ _ _, below_set (below_set HB.out GE.out) GE.out⟩
  · replace ct := Bool.eq_false_iff.mpr ct
    subst ct
    rw [if_neg (by decide)] at h
    replace h := Option.bind_eq_some_iff.mp h
    obtain ⟨u, hu, h⟩ := h
    have AU := Aside0.mk hu
    clear hu
    by_cases cu : u = true
    · subst cu
      rw [if_pos rfl] at h
      replace h := Option.bind_eq_some_iff.mp h
      obtain ⟨l, hl, h⟩ := h
      have AL := Aside0.mk hl
      have HH := Aside0.mk h
      clear hl h
      go_enter Try.func38, Try.ntmps38
      go_upto_region 4 with (first | ((with_reducible refine gate_dst (N := 4) rfl ?_); refine box_event ?hg (N := 4) ?hd (cs := #[.int .i64 0, .slice none 0 0]) (t := 51) ?hr ?_; (case hd => rfl); (case hg => rfl); (case hr => first | (go_simp; done) | (go_simp; rfl)); intro gb hg w8 hbox hb; have HB := Aside0.mk hb; have BK := Aside0.mk hbox; have GE := Aside0.mk (show w.heap.size ≤ gb by rw [hg]; exact Nat.le_refl _); clear hb hbox hg) | (go_at_call 66; (with_reducible refine (impl_longList_int64.calls A0 c0 l0 false _ (Kd.C_below HR0.out HB.out) HC0.out AT.out).mono ?_); rintro e w' ⟨rfl, ⟨nd, hw_⟩⟩; obtain ⟨hb2_, hk2_⟩ := impl_Shuffle.keepD hw_ HB.out BK.out; clear HB BK hw_; have HB := Aside0.mk hb2_; have BK := Aside0.mk hk2_; clear hb2_ hk2_; (try clear hcz0 hcz1 hfz0 hfz1); have hcz0 : w'.cell? ⟨gb, 0, none⟩ = some (.int .i64 0) := (blk_cell BK.out 0).trans rfl; have hcz1 : w'.cell? ⟨gb, 1, none⟩ = some (.slice none 0 0) := (blk_cell BK.out 1).trans rfl; have hfz0 := blk_frozen BK.out 0; have hfz1 := blk_frozen BK.out 1) | (go_at_call 68; (with_reducible refine (impl_isSeed.calls a1 true _ AU.out).mono ?_); rintro e w' ⟨rfl, ⟨nd, hw_⟩⟩; obtain ⟨hb2_, hk2_⟩ := impl_Shuffle.keepD hw_ HB.out BK.out; clear HB BK hw_; have HB := Aside0.mk hb2_; have BK := Aside0.mk hk2_; clear hb2_ hk2_; (try clear hcz0 hcz1 hfz0 hfz1); have hcz0 : w'.cell? ⟨gb, 0, none⟩ = some (.int .i64 0) := (blk_cell BK.out 0).trans rfl; have hcz1 : w'.cell? ⟨gb, 1, none⟩ = some (.slice none 0 0) := (blk_cell BK.out 1).trans rfl; have hfz0 := blk_frozen BK.out 0; have hfz1 := blk_frozen BK.out 1) | (go_at_call 70; (with_reducible refine (slices_Clone_int64_int64.calls A0 c0 l0 l _ (Kd.C_below HR0.out HB.out) HC0.out AL.out).mono ?_); rintro e w3 ⟨v0, rfl, ho, hb⟩; have BK2 := Aside0.mk (blk_below BK.out hb); have HR := Aside0.mk (Kd.R_lower ho HB.out.size); have HB2 := Aside0.mk (below_step HB.out hb); clear BK HB ho hb; have BK := BK2; have HB := HB2; clear BK2 HB2))
      have hl4 : l.length ≤ 400 := by
        have h1 := AT.out
        have h2 := AL.out
        simp only [impl_longList_int64.f, Option.some.injEq, decide_eq_false_iff_not] at h1
        unfold slices_Clone_int64_int64.f at h2
        split at h2
        · cases h2; omega
        · cases h2
      obtain ⟨Ao, co, rfl⟩ := Kd.R_slice HR.out
      (try clear hcz0 hcz1 hfz0 hfz1)
      go_wp2
      go_loopg [1, 6, 7] l.length (fun gg s1 s6 s7 wr => ∃ (s : Int) (j : Int) (m : List Int), s1 = .int .i64 s ∧ s6 = .int .i64 j ∧ -1 ≤ j ∧ j < 400 ∧ (0 < j → j < l.length) ∧ j.toNat ≤ gg ∧ m.length = l.length ∧ Aside0 (impl_Shuffle.l0 j.toNat m s = some (r1, r2)) ∧ Aside0 (Kd.R (Kd.int .i64) 2 wr w.heap.size (fun _ => True) (.slice Ao l.length co) m) ∧ Aside0 (wr.heap[gb]? = some (.cells #[.int .i64 0, .slice none 0 0] 51 (0, 0))) ∧ Aside0 (Below w.heap.size w wr))
      case atStart => exact ⟨a1, (l.length : Int) - 1, l, rfl, (by go_num), by omega, by omega, by omega, by omega, rfl, ⟨by rw [show ((l.length : Int) - 1).toNat = l.length - 1 by omega]; exact HH.out⟩, HR, BK, HB⟩
      case round =>
        obtain ⟨s, j, m, rfl, rfl, h1, h4, hjl, hgg, hml, HA, HR2, BK2, HB2⟩ := hrel
        clear HR BK HB HH
        by_cases hj : 0 < j
        · obtain ⟨i, rfl⟩ : ∃ i : Nat, j = ((i + 1 : Nat) : Int) := ⟨(j - 1).toNat, by omega⟩
          have hA := HA.out
          rw [Int.toNat_natCast, impl_Shuffle.l0] at hA
          replace hA := Option.bind_eq_some_iff.mp hA
          obtain ⟨c, hc, hA⟩ := hA
          have HCH := Aside0.mk hc
          clear hc HA
          by_cases hcc : 0 ≤ c.2 ∧ c.2 < (m.length : Int)
          · rw [if_pos hcc] at hA
            have HA := Aside0.mk hA
            clear hA
            obtain ⟨c1, c2⟩ := c
            obtain ⟨n, hn⟩ : ∃ n : Nat, c2 = (n : Int) := ⟨c2.toNat, by have := hcc.1; simp only at this; omega⟩
            subst hn
            have hil : ((i + 1 : Nat) : Int) < (l.length : Int) := by omega
            have hnl : (n : Int) < (l.length : Int) := by have := hcc.2; simp only at this; omega
            have hil' : i + 1 < l.length := by omega
            have hnl' : n < l.length := by omega
            have HM := Aside0.mk hml
            clear hcc h1 h4 hjl hml
            obtain ⟨go, cp, eo, gb5, gl5, cl5, HG5⟩ := Kd.R_form HR2.out (by have := HM.out; omega)
            injection eo with ea en ec
            subst ea
            subst ec
            clear en gb5 gl5 HG5
            go_upto_region 9 with (first | (go_at_call 36; refine calls_of_args (args' := #[.int .i64 s, .int .i64 (((i + 1 : Nat) : Int) + 1)]) (by first | rfl | go_num | (congr 3; go_num)) ?_; (with_reducible refine (impl_Chance.calls s (((i + 1 : Nat) : Int) + 1) c1 (n : Int) _ HCH.out).mono ?_); rintro e w4 ⟨rfl, hb4⟩; have R4 := Aside0.mk (Kd.R_below HR2.out hb4); have B4 := Aside0.mk (below_step HB2.out hb4); have K4 := Aside0.mk (blk_below BK2.out hb4); clear HR2 HB2 BK2 hb4) | ((with_reducible refine gate_dst (N := 7) rfl ?_); refine box_event ?hg (N := 7) ?hd (cs := #[.int .i64 0, .int .i64 0]) (t := 60) ?hr ?_; (case hd => rfl); (case hg => rfl); (case hr => first | (go_simp; done) | (go_simp; rfl)); intro gc hgc w5 hbox hb; have R5 := Aside0.mk (Kd.R_below R4.out hb); have B5 := Aside0.mk (below_step B4.out hb); have K5 := Aside0.mk (blk_below K4.out hb); have BC := Aside0.mk hbox; have GC := Aside0.mk (show w.heap.size ≤ gc by rw [hgc]; exact below_size B4.out); clear R4 B4 K4 hb hgc hbox; have hc0 : w5.cell? ⟨gc, 0, none⟩ = some (.int .i64 0) := (blk_cell BC.out 0).trans rfl; have hc1 : w5.cell? ⟨gc, 1, none⟩ = some (.int .i64 0) := (blk_cell BC.out 1).trans rfl; have hfc0 := blk_frozen BC.out 0; have hfc1 := blk_frozen BC.out 1))
            have g1 : gc ≠ go := fun e => Kd.R_ne R5.out BC.out (by decide) (by rw [e]; rfl)
            have g2 : gb ≠ gc := (blk_ne BC.out K5.out (by decide)).symm
            have BC9 := Aside0.mk (blk_put (cs' := #[.int .i64 c1, .int .i64 (n : Int)]) (blk_put (cs' := #[.int .i64 c1, .int .i64 0]) BC.out 0 (.int .i64 c1) rfl) 1 (.int .i64 (n : Int)) rfl)
            have K9 := Aside0.mk (blk_far (blk_far K5.out (p := ⟨gc, 0, none⟩) g2 (.int .i64 c1)) (p := ⟨gc, 1, none⟩) g2 (.int .i64 (n : Int)))
            have B9 := Aside0.mk (below_set (j := 1) (v := .int .i64 (n : Int)) (below_set (j := 0) (v := .int .i64 c1) B5.out GC.out) GC.out)
            have R9 := Aside0.mk (Kd.R_mono (ok' := fun _ => True) (Kd.R_far (p := ⟨gc, 1, none⟩) (Kd.R_far (p := ⟨gc, 0, none⟩) (Kd.R_tight rfl R5.out) (fun k hk => by cases hk; exact g1.symm) (.int .i64 c1)) (fun k hk => by cases hk; exact g1.symm) (.int .i64 (n : Int))) (fun _ _ => trivial))
            clear hc0 hc1 hfc0 hfc1 BC K5 B5 R5 GC g2
            have g1' : go ≠ gc := g1.symm
            have hil2 : (i : Int) + 1 < (l.length : Int) := by omega
            have hil3 : 0 ≤ (i : Int) + 1 := by omega
            generalize (w5.setCell { block := gc, off := 0 } (Value.int IntKind.i64 c1)).setCell { block := gc, off := 1 } (Value.int IntKind.i64 (n : Int)) = w9 at *
            obtain ⟨hx, hxf⟩ := Kd.R_celln 0 R9.out ((i : Int) + 1) (by omega) (by omega)
            obtain ⟨hy, hyf⟩ := Kd.R_celln 0 R9.out (n : Int) (by omega) (by omega)
            have P2 := Aside0.mk (Kd.R_putn (Kd.R_putn R9.out ((i : Int) + 1) (rdOf 0 m (n : Int))) (n : Int) (rdOf 0 m ((i : Int) + 1)))
            obtain ⟨hz, hzf⟩ := Kd.R_celln 0 (Kd.R_putn R9.out ((i : Int) + 1) (rdOf 0 m (n : Int))) (n : Int) (by omega) (by omega)
            rw [show ((i : Int) + 1).toNat = i + 1 by omega] at hx hxf P2 hz hzf
            rw [Int.toNat_natCast] at hy hyf P2 hz hzf
            generalize rdOf 0 (m.set (i + 1) (rdOf 0 m (n : Int))) (n : Int) = vz at hz
            have hq1 : w9.cell? ⟨gc, 1, none⟩ = some (.int .i64 (n : Int)) := (blk_cell BC9.out 1).trans rfl
            generalize hvx : rdOf 0 m ((i : Int) + 1) = vx at *
            generalize hvy : rdOf 0 m (n : Int) = vy at *
            have VX := Aside0.mk hvx
            have VY := Aside0.mk hvy
            clear hvx hvy
            have g3 : gb ≠ go := fun e => Kd.R_ne R9.out K9.out (by decide) (by rw [e]; rfl)
            have K10 := Aside0.mk (blk_drew (blk_far (blk_far K9.out (p := ⟨go, i + 1, none⟩) g3 (.int .i64 vy)) (p := ⟨go, n, none⟩) g3 (.int .i64 vx)))
            have GO := Aside0.mk (show w.heap.size ≤ go from Kd.R_base R9.out go rfl)
            have B10 := Aside0.mk (below_drew (below_set (j := n) (v := .int .i64 vx) (below_set (j := i + 1) (v := .int .i64 vy) B9.out GO.out) GO.out))
            have R10 := Aside0.mk (Kd.R_drew P2.out)
            go_region
            clear K9 B9 R9 P2 BC9 hx hxf hy hyf hz hzf hq1 g1 g1' g3
            generalize ((w9.setCell { block := go, off := i + 1 } (Value.int IntKind.i64 vy)).setCell { block := go, off := n } (Value.int IntKind.i64 vx)).drew = w10 at *
            go_wp2
            go_roundg i
            case measure => omega
            case rel => exact ⟨c1, (i : Int), _, rfl, by first | rfl | go_num, by omega, by omega, by omega, by omega, by simpa using HM.out, ⟨by rw [Int.toNat_natCast, ← VX.out, ← VY.out]; exact HA.out⟩, R10, K10, B10⟩
          · rw [if_neg hcc] at hA
            cases hA
        · have hA := HA.out
          rw [show j.toNat = 0 by omega, impl_Shuffle.l0] at hA
          simp only [Option.some.injEq, Prod.mk.injEq] at hA
          obtain ⟨rfl, rfl⟩ := hA
          have hcz0 : wr.cell? ⟨gb, 0, none⟩ = some (.int .i64 0) := (blk_cell BK2.out 0).trans rfl
          have hcz1 : wr.cell? ⟨gb, 1, none⟩ = some (.slice none 0 0) := (blk_cell BK2.out 1).trans rfl
          have hfz0 := blk_frozen BK2.out 0
          have hfz1 := blk_frozen BK2.out 1
          have g3 := Aside0.mk (show ∀ k, some k = (Value.slice Ao l.length co).ownBlock → k ≠ gb from fun k hk e => Kd.R_ne HR2.out BK2.out (by decide) (by rw [← e]; exact hk))
          clear h1 h4 hjl hml
          go_wp2
          refine bodyPost_ret (results_cell_row rfl _ _ gb 51 #[.int .i64 s, .slice Ao l.length co] (0, 0) _ rfl (by refine blk_put (cs := #[.int .i64 s, .slice none 0 0]) ?_ 1 _ rfl; refine blk_put (cs := #[.int .i64 0, .slice none 0 0]) ?_ 0 _ rfl; exact BK2.out) Try.underlying51 rfl (by kernel_rfl)) rfl ?_
          exact ⟨_, rfl, Kd.R_mono (Kd.R_far (p := ⟨gb, 1, none⟩) (Kd.R_far (p := ⟨gb, 0, none⟩) (Kd.R_tight rfl HR2.out) g3.out (.int .i64 s)) g3.out _) (fun _ _ => trivial), below_set (below_set HB2.out GE.out) GE.out⟩
    · replace cu := Bool.eq_false_iff.mpr cu
      subst cu
      rw [if_neg (by decide)] at h
      simp only [Option.some.injEq, Prod.mk.injEq] at h
      obtain ⟨rfl, rfl⟩ := h
      go_enter Try.func38, Try.ntmps38
      go_wp2_with (first | ((with_reducible refine gate_dst (N := 4) rfl ?_); refine box_event ?hg (N := 4) ?hd (cs := #[.int .i64 0, .slice none 0 0]) (t := 51) ?hr ?_; (case hd => rfl); (case hg => rfl); (case hr => first | (go_simp; done) | (go_simp; rfl)); intro gb hg w8 hbox hb; have HB := Aside0.mk hb; have BK := Aside0.mk hbox; have GE := Aside0.mk (show w.heap.size ≤ gb by rw [hg]; exact Nat.le_refl _); clear hb hbox hg) | (go_at_call 66; (with_reducible refine (impl_longList_int64.calls A0 c0 l0 false _ (Kd.C_below HR0.out HB.out) HC0.out AT.out).mono ?_); rintro e w' ⟨rfl, ⟨nd, hw_⟩⟩; obtain ⟨hb2_, hk2_⟩ := impl_Shuffle.keepD hw_ HB.out BK.out; clear HB BK hw_; have HB := Aside0.mk hb2_; have BK := Aside0.mk hk2_; clear hb2_ hk2_; (try clear hcz0 hcz1 hfz0 hfz1); have hcz0 : w'.cell? ⟨gb, 0, none⟩ = some (.int .i64 0) := (blk_cell BK.out 0).trans rfl; have hcz1 : w'.cell? ⟨gb, 1, none⟩ = some (.slice none 0 0) := (blk_cell BK.out 1).trans rfl; have hfz0 := blk_frozen BK.out 0; have hfz1 := blk_frozen BK.out 1) | (go_at_call 68; (with_reducible refine (impl_isSeed.calls a1 false _ AU.out).mono ?_); rintro e w' ⟨rfl, ⟨nd, hw_⟩⟩; obtain ⟨hb2_, hk2_⟩ := impl_Shuffle.keepD hw_ HB.out BK.out; clear HB BK hw_; have HB := Aside0.mk hb2_; have BK := Aside0.mk hk2_; clear hb2_ hk2_; (try clear hcz0 hcz1 hfz0 hfz1); have hcz0 : w'.cell? ⟨gb, 0, none⟩ = some (.int .i64 0) := (blk_cell BK.out 0).trans rfl; have hcz1 : w'.cell? ⟨gb, 1, none⟩ = some (.slice none 0 0) := (blk_cell BK.out 1).trans rfl; have hfz0 := blk_frozen BK.out 0; have hfz1 := blk_frozen BK.out 1))
      refine bodyPost_ret (results_cell_row rfl _ _ gb 51 #[.int .i64 0, .slice none 0 0] (0, 0) _ rfl (by refine blk_put (cs := #[.int .i64 0, .slice none 0 0]) ?_ 1 _ rfl; refine blk_put (cs := #[.int .i64 0, .slice none 0 0]) ?_ 0 _ rfl; exact BK.out) Try.underlying51 rfl (by kernel_rfl)) rfl ?_
      exact ⟨_, rfl, Kd.R_nil _ _ _ _ _, below_set (below_set HB.out GE.out) GE.out⟩
def impl_SetRight.l0 : Nat → List Int → Int → Option (Bool)
  | 0, _, _ => none
  | k + 1, x0, x3 => if x3 < (x0.length : Int) then (if 0 ≤ x3 then (if 0 ≤ (wrap64 (x3 - 1)) then (if (wrap64 (x3 - 1)) < (x0.length : Int) then (if (rd x0 x3) ≤ (rd x0 (wrap64 (x3 - 1))) then (some false) else (impl_SetRight.l0 k x0 (wrap64 (x3 + 1)))) else (none)) else (none)) else (none)) else ((impl_longList_int64.f x0).bind fun t284 => (some (!t284)))
def impl_SetRight.f (k : Nat) (l0 : List Int) : Option (Bool) := impl_SetRight.l0 k l0 1
theorem impl_SetRight.mono_l : ∀ k, (∀ y0 y1, LeO (impl_SetRight.l0 k y0 y1) (impl_SetRight.l0 (k + 1) y0 y1))
  | 0 => fun _ _ r h => by simp [impl_SetRight.l0] at h
  | k + 1 => by
    have ih0 := impl_SetRight.mono_l k
    · intro y0 y1
      unfold impl_SetRight.l0
      repeat' first
      | (with_reducible exact ih0 _ _)
      | (with_reducible exact LeO.refl _)
      | (with_reducible exact LeO.none _)
      | (with_reducible refine LeO.ite ?_ ?_)
      | (with_reducible refine LeO.bind ?_ (fun _ => ?_))
      | exact ih0 _ _
      | exact LeO.none _
      | refine LeO.ite ?_ ?_
      | refine LeO.bind ?_ (fun _ => ?_)
theorem impl_SetRight.mono : ∀ a0 k, LeO (impl_SetRight.f k a0) (impl_SetRight.f (k + 1) a0) := by
  intro a0 k
  have ih0 := impl_SetRight.mono_l k
  unfold impl_SetRight.f
  repeat' first
      | (with_reducible exact ih0 _ _)
      | (with_reducible exact LeO.refl _)
      | (with_reducible exact LeO.none _)
      | (with_reducible refine LeO.ite ?_ ?_)
      | (with_reducible refine LeO.bind ?_ (fun _ => ?_))
      | exact ih0 _ _
      | exact LeO.none _
      | refine LeO.ite ?_ ?_
      | refine LeO.bind ?_ (fun _ => ?_)
set_option maxHeartbeats 8000000 in
set_option maxRecDepth 100000 in
theorem impl_SetRight.calls (k : Nat) (A0 : Option Addr) (c0 : Nat) (l0 : List Int) (r : Bool) (w : World) (hr0 : Kd.C (Kd.int .i64) w A0 l0.length l0) (hc0 : l0.length ≤ c0) (h : impl_SetRight.f k l0 = some r) :
    Calls Try.prog 48 #[.slice A0 l0.length c0] w fun e w' => e = .returned (.bool r) ∧ Drawn0 w w' := by
  have HR0 := Aside0.mk hr0
  have HC0 := Aside0.mk hc0
  clear hr0 hc0
  have H : (impl_SetRight.l0 k l0 1) = some r := h
  clear h
  have H' := Aside0.mk H
  clear H
  go_enter Try.func48, Try.ntmps48
  go_wp2
  repeat (go_quiet (fail); try go_wp2)
  go_loopg [3] k (fun kq v3 w' => ∃ (x3_1 : Int), v3 = .int .i64 x3_1 ∧ Aside0 (impl_SetRight.l0 kq l0 x3_1 = some r) ∧ Aside0 (kq ≤ k) ∧ Drawn0 w w')
  case atStart => exact ⟨(1), (by first | rfl | (simp; done) | (simp [*]; done)), H', ⟨Nat.le_refl _⟩, by repeat (first | exact Drawn0.refl _ | apply Drawn0.step)⟩
  case round =>
    clear H'
    obtain ⟨x3_1, rfl, HA, HK1, ⟨m1, rfl⟩⟩ := hrel
    cases gk with
    | zero => exact absurd HA.out (by simp [impl_SetRight.l0])
    | succ k1 =>
      have H := HA.out
      clear HA
      simp only [impl_SetRight.l0] at H
      by_cases c2 : x3_1 < (l0.length : Int)
      · rw [if_pos c2] at H
        have c2b0 : decide (x3_1 < (l0.length : Int)) = true := decide_eq_true c2
        clear c2
        by_cases c3 : 0 ≤ x3_1
        · rw [if_pos c3] at H
          have c3b0 : decide (0 ≤ x3_1) = true := decide_eq_true c3
          clear c3
          obtain ⟨ji4, hji4⟩ : ∃ j_ : Int, (wrap64 (x3_1 - 1)) = j_ := ⟨_, rfl⟩
          replace H : (if 0 ≤ (ji4) then (if (ji4) < (l0.length : Int) then (if (rd l0 x3_1) ≤ (rd l0 (ji4)) then (some false) else (impl_SetRight.l0 k1 l0 (wrap64 (x3_1 + 1)))) else (none)) else (none)) = some r := by first | (rw [hji4] at H; exact H) | (simp only [hji4] at H ⊢; exact H)
          have hji4w : (IntKind.i64.wrap (x3_1 - 1)) = ji4 := (i64_w _).trans hji4
          by_cases c5 : 0 ≤ (ji4)
          · rw [if_pos c5] at H
            have c5b0 : decide (0 ≤ (ji4)) = true := decide_eq_true c5
            clear c5
            by_cases c6 : (ji4) < (l0.length : Int)
            · rw [if_pos c6] at H
              have c6b0 : decide ((ji4) < (l0.length : Int)) = true := decide_eq_true c6
              clear c6
              by_cases c7 : (rd l0 x3_1) ≤ (rd l0 (ji4))
              · rw [if_pos c7] at H
                have c7b0 : decide ((rd l0 x3_1) ≤ (rd l0 (ji4))) = true := decide_eq_true c7
                clear c7
                obtain rfl := Option.some.inj H
                have p282 : 0 ≤ (x3_1 : Int) := of_decide_eq_true (by first | (with_reducible assumption) | assumption)
                have q282 : x3_1 < (l0.length : Int) := of_decide_eq_true (by first | (with_reducible assumption) | assumption)
                obtain ⟨ad282, e282, hx282_0⟩ := Kd.at_int HR0.out x3_1 p282 q282
                cases e282
                replace p282 := eq_true p282
                replace q282 := eq_true q282
                have p283 : 0 ≤ ((ji4) : Int) := of_decide_eq_true (by first | (with_reducible assumption) | assumption)
                have q283 : (ji4) < (l0.length : Int) := of_decide_eq_true (by first | (with_reducible assumption) | assumption)
                obtain ⟨ad283, e283, hx283_0⟩ := Kd.at_int HR0.out (ji4) p283 q283
                obtain rfl : ad282 = ad283 := (by injection e283)
                replace p283 := eq_true p283
                replace q283 := eq_true q283
                go_wp2
                repeat (go_quiet (fail); try go_wp2)
                go_ret
                exact ⟨by first | rfl | (simp; done) | (simp only [← hji4] <;> (first | rfl | simp)) | (simp [*]; done), by repeat (first | exact Drawn0.refl _ | apply Drawn0.step)⟩
              · rw [if_neg c7] at H
                have c7b0 : decide ((rd l0 x3_1) ≤ (rd l0 (ji4))) = false := decide_eq_false c7
                clear c7
                have H' := Aside0.mk H
                clear H
                have p282 : 0 ≤ (x3_1 : Int) := of_decide_eq_true (by first | (with_reducible assumption) | assumption)
                have q282 : x3_1 < (l0.length : Int) := of_decide_eq_true (by first | (with_reducible assumption) | assumption)
                obtain ⟨ad282, e282, hx282_0⟩ := Kd.at_int HR0.out x3_1 p282 q282
                cases e282
                replace p282 := eq_true p282
                replace q282 := eq_true q282
                have p283 : 0 ≤ ((ji4) : Int) := of_decide_eq_true (by first | (with_reducible assumption) | assumption)
                have q283 : (ji4) < (l0.length : Int) := of_decide_eq_true (by first | (with_reducible assumption) | assumption)
                obtain ⟨ad283, e283, hx283_0⟩ := Kd.at_int HR0.out (ji4) p283 q283
                obtain rfl : ad282 = ad283 := (by injection e283)
                replace p283 := eq_true p283
                replace q283 := eq_true q283
                go_wp2
                repeat (go_quiet (fail); try go_wp2)
                go_roundg k1
                case measure => have := HK1.out; omega
                case rel => exact ⟨(wrap64 (x3_1 + 1)), (by first | rfl | (simp; done) | (simp [*]; done)), H', ⟨by have := HK1.out; omega⟩, by repeat (first | exact Drawn0.refl _ | apply Drawn0.step)⟩
            · rw [if_neg c6] at H
              exact absurd H (by simp)
          · rw [if_neg c5] at H
            exact absurd H (by simp)
        · rw [if_neg c3] at H
          exact absurd H (by simp)
      · rw [if_neg c2] at H
        have c2b0 : decide (x3_1 < (l0.length : Int)) = false := decide_eq_false c2
        clear c2
        replace H := Option.bind_eq_some_iff.mp H
        obtain ⟨t284, A80, H⟩ := H
        replace H : (some (!t284)) = some r := H
        have A8 := Aside0.mk A80
        clear A80
        obtain rfl := Option.some.inj H
        go_wp2_with (first | (go_at_call 66; (with_reducible refine (impl_longList_int64.calls _ _ l0 t284 _ ?side1 ?side2 A8.out).mono ?_); (case side1 => repeat (first | exact HR0.out | (with_reducible refine Kd.C_alloc ?_ _) | (with_reducible refine Kd.C_drewN ?_ _) | (with_reducible refine Kd.C_drew ?_))); (case side2 => exact HC0.out); rintro e w' ⟨rfl, ⟨nd, rfl⟩⟩; (try first | exact ⟨rfl, _, World.drewN_drewN _ _ _⟩ | exact ⟨rfl, _, Eq.trans (World.drewN_drewN _ _ _) (congrArg (World.drewN _) (Nat.add_assoc _ _ _))⟩)))
        repeat (go_quiet (first | (go_at_call 66; (with_reducible refine (impl_longList_int64.calls _ _ l0 t284 _ ?side1 ?side2 A8.out).mono ?_); (case side1 => repeat (first | exact HR0.out | (with_reducible refine Kd.C_alloc ?_ _) | (with_reducible refine Kd.C_drewN ?_ _) | (with_reducible refine Kd.C_drew ?_))); (case side2 => exact HC0.out); rintro e w' ⟨rfl, ⟨nd, rfl⟩⟩; (try first | exact ⟨rfl, _, World.drewN_drewN _ _ _⟩ | exact ⟨rfl, _, Eq.trans (World.drewN_drewN _ _ _) (congrArg (World.drewN _) (Nat.add_assoc _ _ _))⟩))); try go_wp2_with (first | (go_at_call 66; (with_reducible refine (impl_longList_int64.calls _ _ l0 t284 _ ?side1 ?side2 A8.out).mono ?_); (case side1 => repeat (first | exact HR0.out | (with_reducible refine Kd.C_alloc ?_ _) | (with_reducible refine Kd.C_drewN ?_ _) | (with_reducible refine Kd.C_drew ?_))); (case side2 => exact HC0.out); rintro e w' ⟨rfl, ⟨nd, rfl⟩⟩; (try first | exact ⟨rfl, _, World.drewN_drewN _ _ _⟩ | exact ⟨rfl, _, Eq.trans (World.drewN_drewN _ _ _) (congrArg (World.drewN _) (Nat.add_assoc _ _ _))⟩))))
        go_ret
        exact ⟨by first | rfl | (simp; done) | (simp [*]; done), by repeat (first | exact Drawn0.refl _ | apply Drawn0.step)⟩
def impl_areNodes.l0 : List Int → Option Bool
  | [] => some true
  | x :: xs => (impl_isNode.f x).bind fun b => if b = true then impl_areNodes.l0 xs else some false
def impl_areNodes.f (k : Nat) (l0 : List Int) : Option Bool := (impl_SetRight.f k l0).bind fun b => if b = true then (if l0.length ≤ 140737488355328 then impl_areNodes.l0 l0 else none) else some false
set_option maxHeartbeats 8000000 in
set_option maxRecDepth 100000 in
theorem impl_areNodes.asks (x : Int) (b : Bool) (w : World) (h : impl_isNode.f x = some b) :
    Calls Try.prog 88 #[.int .i64 x] w fun e w' => e = .returned (.bool (!b)) ∧ Drawn0 w w' := by
  have HH := Aside0.mk h
  clear h
  go_enter Try.func88, Try.ntmps88
  go_wp2_with (go_at_call 76; (with_reducible refine (impl_isNode.calls x b _ HH.out).mono ?_); rintro e w' ⟨rfl, ⟨nd, rfl⟩⟩)
  go_ret
  exact ⟨rfl, by repeat (first | exact Drawn0.refl _ | apply Drawn0.step)⟩
set_option maxHeartbeats 8000000 in
set_option maxRecDepth 100000 in
theorem impl_areNodes.index (A0 : Option Addr) (c0 : Nat) (l0 : List Int) (r : Bool) (w : World) (hr0 : Kd.C (Kd.int .i64) w A0 l0.length l0) (hc0 : l0.length ≤ c0) (hl : l0.length ≤ 140737488355328) (h : impl_areNodes.l0 l0 = some r) :
    Calls Try.prog 99 #[.slice A0 l0.length c0, .func (.func 88) #[] #[]] w fun e w' => ∃ i : Int, e = .returned (.int .i64 i) ∧ decide (0 ≤ i) = !r ∧ Drawn0 w w' := by
  have HR0 := Aside0.mk hr0
  have HL := Aside0.mk hl
  have HH := Aside0.mk h
  clear hr0 hc0 hl h
  go_enter Try.func99, Try.ntmps99
  go_wp2
  go_loopg [5, 8] l0.length (fun gg s5 s8 wr => ∃ kk q : Nat, s8 = .int .i64 (kk : Int) ∧ wr = w.drewN q ∧ Aside0 (kk ≤ l0.length) ∧ Aside0 (l0.length - kk ≤ gg) ∧ Aside0 (impl_areNodes.l0 (l0.drop kk) = some r))
  case atStart => exact ⟨0, 0, rfl, rfl, ⟨Nat.zero_le _⟩, ⟨by omega⟩, ⟨by rw [List.drop_zero]; exact HH.out⟩⟩
  case round =>
    obtain ⟨kk, q, rfl, rfl, K1, G1, E1⟩ := hrel
    clear HH
    by_cases hlt : kk < l0.length
    · have hltz : (kk : Int) < (l0.length : Int) := by omega
      obtain ⟨ad, e1, hx⟩ := Kd.at_int HR0.out (kk : Int) (by omega) hltz
      cases e1
      rw [Int.toNat_natCast] at hx
      have hd : l0.drop kk = rd l0 (kk : Int) :: l0.drop (kk + 1) := by
        rw [List.drop_eq_getElem_cons hlt]
        simp [rd, List.getD, hlt]
      have hE := E1.out
      rw [hd, impl_areNodes.l0] at hE
      replace hE := Option.bind_eq_some_iff.mp hE
      obtain ⟨b, hb, hE⟩ := hE
      have BB := Aside0.mk hb
      have EE := Aside0.mk hE
      have LT := Aside0.mk hlt
      have XX := Aside0.mk hd
      clear hb hE hd hlt E1
      generalize rd l0 (kk : Int) = x at *
      cases b with
      | false =>
        go_wp2_with (go_at_call 88; refine (impl_areNodes.asks x false _ BB.out).mono ?_; rintro e w' ⟨rfl, ⟨nd, rfl⟩⟩)
        go_ret
        have hr := EE.out
        first | (rw [if_neg (by decide)] at hr; cases hr) | (simp at hr; subst hr)
        exact ⟨(kk : Int), rfl, by simp, by repeat (first | exact Drawn0.refl _ | apply Drawn0.step)⟩
      | true =>
        go_wp2_with (go_at_call 88; refine (impl_areNodes.asks x true _ BB.out).mono ?_; rintro e w' ⟨rfl, ⟨nd, rfl⟩⟩)
        go_roundg (l0.length - (kk + 1))
        case measure => have := G1.out; have := LT.out; omega
        case rel =>
          refine ⟨kk + 1, q + nd, ?_, ?_, ⟨by have := LT.out; omega⟩, ⟨Nat.le_refl _⟩, ⟨?_⟩⟩
          · have := LT.out; have := HL.out
            first | rfl | (congr 1; omega) | (congr 1; unfold wrap64; omega) | go_num
          · first | rfl | exact (drewN_add _ _ _).symm | exact drewN_add _ _ _ | (simp [drewN_drewN])
          · have hr := EE.out
            first | (rw [if_pos rfl] at hr; exact hr) | (rw [if_pos trivial] at hr; exact hr)
    · have hltz : ¬ (kk : Int) < (l0.length : Int) := by omega
      have hE := E1.out
      rw [List.drop_of_length_le (by omega), impl_areNodes.l0] at hE
      cases hE
      go_wp2
      go_ret
      exact ⟨-1, rfl, by decide, by repeat (first | exact Drawn0.refl _ | apply Drawn0.step)⟩
set_option maxHeartbeats 8000000 in
set_option maxRecDepth 100000 in
theorem impl_areNodes.holds (A0 : Option Addr) (c0 : Nat) (l0 : List Int) (r : Bool) (w : World) (hr0 : Kd.C (Kd.int .i64) w A0 l0.length l0) (hc0 : l0.length ≤ c0) (hl : l0.length ≤ 140737488355328) (h : impl_areNodes.l0 l0 = some r) :
    Calls Try.prog 87 #[.slice A0 l0.length c0, .func (.func 88) #[] #[]] w fun e w' => e = .returned (.bool (!r)) ∧ Drawn0 w w' := by
  have HR0 := Aside0.mk hr0
  have HC := Aside0.mk hc0
  have HL := Aside0.mk hl
  have HH := Aside0.mk h
  clear hr0 hc0 hl h
  go_enter Try.func87, Try.ntmps87
  go_wp2_with (go_at_call 99; (with_reducible refine (impl_areNodes.index A0 c0 l0 r _ HR0.out HC.out HL.out HH.out).mono ?_); rintro e w' ⟨i, rfl, hi, ⟨nd, rfl⟩⟩)
  go_ret
  exact ⟨rfl, by repeat (first | exact Drawn0.refl _ | apply Drawn0.step)⟩
set_option maxHeartbeats 8000000 in
set_option maxRecDepth 100000 in
theorem impl_areNodes.calls (k : Nat) (A0 : Option Addr) (c0 : Nat) (l0 : List Int) (r : Bool) (w : World) (hr0 : Kd.C (Kd.int .i64) w A0 l0.length l0) (hc0 : l0.length ≤ c0) (h : impl_areNodes.f k l0 = some r) :
    Calls Try.prog 67 #[.slice A0 l0.length c0] w fun e w' => e = .returned (.bool r) ∧ Drawn0 w w' := by
  have HR0 := Aside0.mk hr0
  have HC := Aside0.mk hc0
  clear hr0 hc0
  unfold impl_areNodes.f at h
  replace h := Option.bind_eq_some_iff.mp h
  obtain ⟨b, hb, h⟩ := h
  have BB := Aside0.mk hb
  clear hb
  cases b with
  | false =>
    rw [if_neg (by decide)] at h
    obtain rfl := Option.some.inj h
    clear h
    go_enter Try.func67, Try.ntmps67
    go_wp2_with (go_at_call 48; (with_reducible refine (impl_SetRight.calls k A0 c0 l0 false _ HR0.out HC.out BB.out).mono ?_); rintro e w' ⟨rfl, ⟨nd, rfl⟩⟩)
    go_ret
    exact ⟨rfl, by repeat (first | exact Drawn0.refl _ | apply Drawn0.step)⟩
  | true =>
    rw [if_pos rfl] at h
    by_cases hl : l0.length ≤ 140737488355328
    · rw [if_pos hl] at h
      have HL := Aside0.mk hl
      have HH := Aside0.mk h
      clear hl h
      go_enter Try.func67, Try.ntmps67
      go_wp2_with (first | (go_at_call 48; (with_reducible refine (impl_SetRight.calls k A0 c0 l0 true _ HR0.out HC.out BB.out).mono ?_); rintro e w' ⟨rfl, ⟨nd, rfl⟩⟩) | (go_at_call 87; (with_reducible refine (impl_areNodes.holds A0 c0 l0 r _ (by (with_reducible repeat (first | refine Kd.C_alloc ?_ _ | refine Kd.C_drewN ?_ _ | refine Kd.C_drew ?_)); exact HR0.out) HC.out HL.out HH.out).mono ?_); rintro e w' ⟨rfl, ⟨nd, rfl⟩⟩))
      go_ret
      exact ⟨by simp, by repeat (first | exact Drawn0.refl _ | apply Drawn0.step)⟩
    · rw [if_neg hl] at h
      cases h
theorem impl_areNodes.mono : ∀ a0 k, LeO (impl_areNodes.f k a0) (impl_areNodes.f (k + 1) a0) := by
  intro a0 k
  unfold impl_areNodes.f
  repeat' first
      | (with_reducible exact impl_SetRight.mono _ _)
      | (with_reducible exact LeO.refl _)
      | (with_reducible exact LeO.none _)
      | (with_reducible refine LeO.ite ?_ ?_)
      | (with_reducible refine LeO.bind ?_ (fun _ => ?_))
      | exact LeO.refl _
      | exact LeO.none _
      | refine LeO.ite ?_ ?_
      | refine LeO.bind ?_ (fun _ => ?_)
end Go.Proofs.Ytkgjikjnciihmaa.PFnTurn
