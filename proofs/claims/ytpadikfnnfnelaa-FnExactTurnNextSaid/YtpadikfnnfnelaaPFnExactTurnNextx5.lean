/- Laid by this session's program pp.py (over the kit's printer) out of the translation: Go functions as Lean functions, and that the calls come to them. -/
import Derived.Test.YtpadikfnnfnelaaPFnExactTurnNextx0
import Derived.Test.YtpadikfnnfnelaaPFnExactTurnNextx4
namespace Go.Proofs.Ytpadikfnnfnelaa.PFnExactTurnNext
open Go.RowKit Go.Proofs.YtpadikfnnfnelaaW.PrintWords Go.Proofs.YtpadikfnnfnelaaW.PrintLast Go.Proofs.YtpadikfnnfnelaaW.PrintMore
attribute [local go_sem] max2_int min2_int max_two min_two max_three min_three max_four min_four   -- for this text's walks alone
set_option linter.unusedVariables false
set_option linter.unusedSimpArgs false

/-! ### impl_Shuffle: function 71, by a template -/
def impl_Shuffle.l0 : Nat → List Int → Int → Option (Int × List Int)
  | 0, l, s => some (s, l)
  | i + 1, l, s => (impl_Chance.f s (((i + 1 : Nat) : Int) + 1)).bind fun c => if 0 ≤ c.2 ∧ c.2 < (l.length : Int) then impl_Shuffle.l0 i ((l.set (i + 1) (rd l c.2)).set c.2.toNat (rd l ((i + 1 : Nat) : Int))) c.1 else none
def impl_Shuffle.f (l0 : List Int) (a1 : Int) : Option (Int × List Int) := (impl_longList_int64.f l0).bind fun t => if t = true then some (0, []) else (impl_isSeed.f a1).bind fun u => if u = true then (slices_Clone_int64_int64.f l0).bind fun l => impl_Shuffle.l0 (l.length - 1) l a1 else some (0, [])
theorem impl_Shuffle.keepD {w W W' : World} {gb t : Nat} {cs : Array Value} {nd : Nat} (hw : W' = W.drewN nd) (hb : Below w.heap.size w W) (hk : W.heap[gb]? = some (.cells cs t (0, 0))) : Below w.heap.size w W' ∧ W'.heap[gb]? = some (.cells cs t (0, 0)) := by
  subst hw
  exact ⟨pw_below_drewN hb nd, hk⟩
set_option maxHeartbeats 8000000 in
set_option maxRecDepth 100000 in
theorem impl_Shuffle.calls (A0 : Option Addr) (c0 : Nat) (l0 : List Int) (a1 : Int) (r1 : Int) (r2 : List Int) (w : World) (hr0 : Kd.C (Kd.int .i64) w A0 l0.length l0) (hc0 : l0.length ≤ c0) (h : impl_Shuffle.f l0 a1 = some (r1, r2)) :
    Calls Try.prog 71 #[.slice A0 l0.length c0, .int .i64 a1] w fun e w' => ∃ v1_ : Value, e = .returned (.agg #[.int .i64 r1, v1_]) ∧ Kd.R (Kd.int .i64) 2 w' w.heap.size (fun _ => True) v1_ r2 ∧ Below w.heap.size w w' := by
  have hu46 := Try.underlying42
  have hu58 := Try.underlying108
  have HR0 := Aside0.mk hr0
  have HC0 := Aside0.mk hc0
  clear hr0 hc0
  unfold impl_Shuffle.f at h
  replace h := Option.bind_eq_some_iff.mp h
  obtain ⟨t, ht, h⟩ := h
  have AT := Aside0.mk ht
  clear ht
  by_cases ct : t = true
  · subst ct
    rw [if_pos rfl] at h
    simp only [Option.some.injEq, Prod.mk.injEq] at h
    obtain ⟨rfl, rfl⟩ := h
    go_enter Try.func71, Try.ntmps71
    go_wp2_with (first | ((with_reducible refine gate_dst (N := 4) rfl ?_); refine box_event ?hg (N := 4) ?hd (cs := #[.int .i64 0, .slice none 0 0]) (t := 42) ?hr ?_; (case hd => rfl); (case hg => rfl); (case hr => first | (go_simp; done) | (go_simp; rfl)); intro gb hg w8 hbox hb; have HB := Aside0.mk hb; have BK := Aside0.mk hbox; have GE := Aside0.mk (show w.heap.size ≤ gb by rw [hg]; exact Nat.le_refl _); clear hb hbox hg) | (go_at_call 67; (with_reducible refine (impl_longList_int64.calls A0 c0 l0 true _ (Kd.C_below HR0.out HB.out) HC0.out AT.out).mono ?_); rintro e w' ⟨rfl, ⟨nd, hw_⟩⟩; obtain ⟨hb2_, hk2_⟩ := impl_Shuffle.keepD hw_ HB.out BK.out; clear HB BK hw_; have HB := Aside0.mk hb2_; have BK := Aside0.mk hk2_; clear hb2_ hk2_; (try clear hcz0 hcz1 hfz0 hfz1); have hcz0 : w'.cell? ⟨gb, 0, none⟩ = some (.int .i64 0) := (blk_cell BK.out 0).trans rfl; have hcz1 : w'.cell? ⟨gb, 1, none⟩ = some (.slice none 0 0) := (blk_cell BK.out 1).trans rfl; have hfz0 := blk_frozen BK.out 0; have hfz1 := blk_frozen BK.out 1))
    refine bodyPost_ret (results_cell_row rfl _ _ gb 42 #[.int .i64 0, .slice none 0 0] (0, 0) _ rfl (by refine blk_put (cs := #[.int .i64 0, .slice none 0 0]) ?_ 1 _ rfl; refine blk_put (cs := #[.int .i64 0, .slice none 0 0]) ?_ 0 _ rfl; exact BK.out) Try.underlying42 rfl (by kernel_rfl)) rfl ?_
    exact ⟨_, rfl, Kd.R_nil _ _ _ _ _, below_set (below_set HB.out GE.out) GE.out⟩
  · replace ct := Bool.eq_false_iff.mpr ct
    subst ct
    rw [if_neg (by decide)] at h
    replace h := Option.bind_eq_some_iff.mp h
    obtain ⟨u, hu, h⟩ := h
    have AU := Aside0.mk hu
    clear hu
    by_cases cu : u = true
    · subst cu
      rw [if_pos rfl] at h
      replace h := Option.bind_eq_some_iff.mp h
      obtain ⟨l, hl, h⟩ := h
      have AL := Aside0.mk hl
      have HH := Aside0.mk h
      clear hl h
      go_enter Try.func71, Try.ntmps71
      go_upto_region 4 with (first | ((with_reducible refine gate_dst (N := 4) rfl ?_); refine box_event ?hg (N := 4) ?hd (cs := #[.int .i64 0, .slice none 0 0]) (t := 42) ?hr ?_; (case hd => rfl); (case hg => rfl); (case hr => first | (go_simp; done) | (go_simp; rfl)); intro gb hg w8 hbox hb; have HB := Aside0.mk hb; have BK := Aside0.mk hbox; have GE := Aside0.mk (show w.heap.size ≤ gb by rw [hg]; exact Nat.le_refl _); clear hb hbox hg) | (go_at_call 67; (with_reducible refine (impl_longList_int64.calls A0 c0 l0 false _ (Kd.C_below HR0.out HB.out) HC0.out AT.out).mono ?_); rintro e w' ⟨rfl, ⟨nd, hw_⟩⟩; obtain ⟨hb2_, hk2_⟩ := impl_Shuffle.keepD hw_ HB.out BK.out; clear HB BK hw_; have HB := Aside0.mk hb2_; have BK := Aside0.mk hk2_; clear hb2_ hk2_; (try clear hcz0 hcz1 hfz0 hfz1); have hcz0 : w'.cell? ⟨gb, 0, none⟩ = some (.int .i64 0) := (blk_cell BK.out 0).trans rfl; have hcz1 : w'.cell? ⟨gb, 1, none⟩ = some (.slice none 0 0) := (blk_cell BK.out 1).trans rfl; have hfz0 := blk_frozen BK.out 0; have hfz1 := blk_frozen BK.out 1) | (go_at_call 69; (with_reducible refine (impl_isSeed.calls a1 true _ AU.out).mono ?_); rintro e w' ⟨rfl, ⟨nd, hw_⟩⟩; obtain ⟨hb2_, hk2_⟩ := impl_Shuffle.keepD hw_ HB.out BK.out; clear HB BK hw_; have HB := Aside0.mk hb2_; have BK := Aside0.mk hk2_; clear hb2_ hk2_; (try clear hcz0 hcz1 hfz0 hfz1); have hcz0 : w'.cell? ⟨gb, 0, none⟩ = some (.int .i64 0) := (blk_cell BK.out 0).trans rfl; have hcz1 : w'.cell? ⟨gb, 1, none⟩ = some (.slice none 0 0) := (blk_cell BK.out 1).trans rfl; have hfz0 := blk_frozen BK.out 0; have hfz1 := blk_frozen BK.out 1) | (go_at_call 70; (with_reducible refine (slices_Clone_int64_int64.calls A0 c0 l0 l _ (Kd.C_below HR0.out HB.out) HC0.out AL.out).mono ?_); rintro e w3 ⟨v0, rfl, ho, hb⟩; have BK2 := Aside0.mk (blk_below BK.out hb); have HR := Aside0.mk (Kd.R_lower ho HB.out.size); have HB2 := Aside0.mk (below_step HB.out hb); clear BK HB ho hb; have BK := BK2; have HB := HB2; clear BK2 HB2))
      have hl4 : l.length ≤ 400 := by
        have h1 := AT.out
        have h2 := AL.out
        simp only [impl_longList_int64.f, Option.some.injEq, decide_eq_false_iff_not] at h1
        unfold slices_Clone_int64_int64.f at h2
        split at h2
        · cases h2; omega
        · cases h2
      obtain ⟨Ao, co, rfl⟩ := Kd.R_slice HR.out
      (try clear hcz0 hcz1 hfz0 hfz1)
      go_wp2
      go_loopg [1, 6, 7] l.length (fun gg s1 s6 s7 wr => ∃ (s : Int) (j : Int) (m : List Int), s1 = .int .i64 s ∧ s6 = .int .i64 j ∧ -1 ≤ j ∧ j < 400 ∧ (0 < j → j < l.length) ∧ j.toNat ≤ gg ∧ m.length = l.length ∧ Aside0 (impl_Shuffle.l0 j.toNat m s = some (r1, r2)) ∧ Aside0 (Kd.R (Kd.int .i64) 2 wr w.heap.size (fun _ => True) (.slice Ao l.length co) m) ∧ Aside0 (wr.heap[gb]? = some (.cells #[.int .i64 0, .slice none 0 0] 42 (0, 0))) ∧ Aside0 (Below w.heap.size w wr))
      case atStart => exact ⟨a1, (l.length : Int) - 1, l, rfl, (by go_num), by omega, by omega, by omega, by omega, rfl, ⟨by rw [show ((l.length : Int) - 1).toNat = l.length - 1 by omega]; exact HH.out⟩, HR, BK, HB⟩
      case round =>
        obtain ⟨s, j, m, rfl, rfl, h1, h4, hjl, hgg, hml, HA, HR2, BK2, HB2⟩ := hrel
        clear HR BK HB HH
        by_cases hj : 0 < j
        · obtain ⟨i, rfl⟩ : ∃ i : Nat, j = ((i + 1 : Nat) : Int) := ⟨(j - 1).toNat, by omega⟩
          have hA := HA.out
          rw [Int.toNat_natCast, impl_Shuffle.l0] at hA
          replace hA := Option.bind_eq_some_iff.mp hA
          obtain ⟨c, hc, hA⟩ := hA
          have HCH := Aside0.mk hc
          clear hc HA
          by_cases hcc : 0 ≤ c.2 ∧ c.2 < (m.length : Int)
          · rw [if_pos hcc] at hA
            have HA := Aside0.mk hA
            clear hA
            obtain ⟨c1, c2⟩ := c
            obtain ⟨n, hn⟩ : ∃ n : Nat, c2 = (n : Int) := ⟨c2.toNat, by have := hcc.1; simp only at this; omega⟩
            subst hn
            have hil : ((i + 1 : Nat) : Int) < (l.length : Int) := by omega
            have hnl : (n : Int) < (l.length : Int) := by have := hcc.2; simp only at this; omega
            have hil' : i + 1 < l.length := by omega
            have hnl' : n < l.length := by omega
            have HM := Aside0.mk hml
            clear hcc h1 h4 hjl hml
            obtain ⟨go, cp, eo, gb5, gl5, cl5, HG5⟩ := Kd.R_form HR2.out (by have := HM.out; omega)
            injection eo with ea en ec
            subst ea
            subst ec
            clear en gb5 gl5 HG5
            go_upto_region 9 with (first | (go_at_call 106; refine calls_of_args (args' := #[.int .i64 s, .int .i64 (((i + 1 : Nat) : Int) + 1)]) (by first | rfl | go_num | (congr 3; go_num)) ?_; (with_reducible refine (impl_Chance.calls s (((i + 1 : Nat) : Int) + 1) c1 (n : Int) _ HCH.out).mono ?_); rintro e w4 ⟨rfl, hb4⟩; have R4 := Aside0.mk (Kd.R_below HR2.out hb4); have B4 := Aside0.mk (below_step HB2.out hb4); have K4 := Aside0.mk (blk_below BK2.out hb4); clear HR2 HB2 BK2 hb4) | ((with_reducible refine gate_dst (N := 7) rfl ?_); refine box_event ?hg (N := 7) ?hd (cs := #[.int .i64 0, .int .i64 0]) (t := 108) ?hr ?_; (case hd => rfl); (case hg => rfl); (case hr => first | (go_simp; done) | (go_simp; rfl)); intro gc hgc w5 hbox hb; have R5 := Aside0.mk (Kd.R_below R4.out hb); have B5 := Aside0.mk (below_step B4.out hb); have K5 := Aside0.mk (blk_below K4.out hb); have BC := Aside0.mk hbox; have GC := Aside0.mk (show w.heap.size ≤ gc by rw [hgc]; exact below_size B4.out); clear R4 B4 K4 hb hgc hbox; have hc0 : w5.cell? ⟨gc, 0, none⟩ = some (.int .i64 0) := (blk_cell BC.out 0).trans rfl; have hc1 : w5.cell? ⟨gc, 1, none⟩ = some (.int .i64 0) := (blk_cell BC.out 1).trans rfl; have hfc0 := blk_frozen BC.out 0; have hfc1 := blk_frozen BC.out 1))
            have g1 : gc ≠ go := fun e => Kd.R_ne R5.out BC.out (by decide) (by rw [e]; rfl)
            have g2 : gb ≠ gc := (blk_ne BC.out K5.out (by decide)).symm
            have BC9 := Aside0.mk (blk_put (cs' := #[.int .i64 c1, .int .i64 (n : Int)]) (blk_put (cs' := #[.int .i64 c1, .int .i64 0]) BC.out 0 (.int .i64 c1) rfl) 1 (.int .i64 (n : Int)) rfl)
            have K9 := Aside0.mk (blk_far (blk_far K5.out (p := ⟨gc, 0, none⟩) g2 (.int .i64 c1)) (p := ⟨gc, 1, none⟩) g2 (.int .i64 (n : Int)))
            have B9 := Aside0.mk (below_set (j := 1) (v := .int .i64 (n : Int)) (below_set (j := 0) (v := .int .i64 c1) B5.out GC.out) GC.out)
            have R9 := Aside0.mk (Kd.R_mono (ok' := fun _ => True) (Kd.R_far (p := ⟨gc, 1, none⟩) (Kd.R_far (p := ⟨gc, 0, none⟩) (Kd.R_tight rfl R5.out) (fun k hk => by cases hk; exact g1.symm) (.int .i64 c1)) (fun k hk => by cases hk; exact g1.symm) (.int .i64 (n : Int))) (fun _ _ => trivial))
            clear hc0 hc1 hfc0 hfc1 BC K5 B5 R5 GC g2
            have g1' : go ≠ gc := g1.symm
            have hil2 : (i : Int) + 1 < (l.length : Int) := by omega
            have hil3 : 0 ≤ (i : Int) + 1 := by omega
            generalize (w5.setCell { block := gc, off := 0 } (Value.int IntKind.i64 c1)).setCell { block := gc, off := 1 } (Value.int IntKind.i64 (n : Int)) = w9 at *
            obtain ⟨hx, hxf⟩ := Kd.R_celln 0 R9.out ((i : Int) + 1) (by omega) (by omega)
            obtain ⟨hy, hyf⟩ := Kd.R_celln 0 R9.out (n : Int) (by omega) (by omega)
            have P2 := Aside0.mk (Kd.R_putn (Kd.R_putn R9.out ((i : Int) + 1) (rdOf 0 m (n : Int))) (n : Int) (rdOf 0 m ((i : Int) + 1)))
            obtain ⟨hz, hzf⟩ := Kd.R_celln 0 (Kd.R_putn R9.out ((i : Int) + 1) (rdOf 0 m (n : Int))) (n : Int) (by omega) (by omega)
            rw [show ((i : Int) + 1).toNat = i + 1 by omega] at hx hxf P2 hz hzf
            rw [Int.toNat_natCast] at hy hyf P2 hz hzf
            generalize rdOf 0 (m.set (i + 1) (rdOf 0 m (n : Int))) (n : Int) = vz at hz
            have hq1 : w9.cell? ⟨gc, 1, none⟩ = some (.int .i64 (n : Int)) := (blk_cell BC9.out 1).trans rfl
            generalize hvx : rdOf 0 m ((i : Int) + 1) = vx at *
            generalize hvy : rdOf 0 m (n : Int) = vy at *
            have VX := Aside0.mk hvx
            have VY := Aside0.mk hvy
            clear hvx hvy
            have g3 : gb ≠ go := fun e => Kd.R_ne R9.out K9.out (by decide) (by rw [e]; rfl)
            have K10 := Aside0.mk (blk_drew (blk_far (blk_far K9.out (p := ⟨go, i + 1, none⟩) g3 (.int .i64 vy)) (p := ⟨go, n, none⟩) g3 (.int .i64 vx)))
            have GO := Aside0.mk (show w.heap.size ≤ go from Kd.R_base R9.out go rfl)
            have B10 := Aside0.mk (below_drew (below_set (j := n) (v := .int .i64 vx) (below_set (j := i + 1) (v := .int .i64 vy) B9.out GO.out) GO.out))
            have R10 := Aside0.mk (Kd.R_drew P2.out)
            go_region
            clear K9 B9 R9 P2 BC9 hx hxf hy hyf hz hzf hq1 g1 g1' g3
            generalize ((w9.setCell { block := go, off := i + 1 } (Value.int IntKind.i64 vy)).setCell { block := go, off := n } (Value.int IntKind.i64 vx)).drew = w10 at *
            go_wp2
            go_roundg i
            case measure => omega
            case rel => exact ⟨c1, (i : Int), _, rfl, by first | rfl | go_num, by omega, by omega, by omega, by omega, by simpa using HM.out, ⟨by rw [Int.toNat_natCast, ← VX.out, ← VY.out]; exact HA.out⟩, R10, K10, B10⟩
          · rw [if_neg hcc] at hA
            cases hA
        · have hA := HA.out
          rw [show j.toNat = 0 by omega, impl_Shuffle.l0] at hA
          simp only [Option.some.injEq, Prod.mk.injEq] at hA
          obtain ⟨rfl, rfl⟩ := hA
          have hcz0 : wr.cell? ⟨gb, 0, none⟩ = some (.int .i64 0) := (blk_cell BK2.out 0).trans rfl
          have hcz1 : wr.cell? ⟨gb, 1, none⟩ = some (.slice none 0 0) := (blk_cell BK2.out 1).trans rfl
          have hfz0 := blk_frozen BK2.out 0
          have hfz1 := blk_frozen BK2.out 1
          have g3 := Aside0.mk (show ∀ k, some k = (Value.slice Ao l.length co).ownBlock → k ≠ gb from fun k hk e => Kd.R_ne HR2.out BK2.out (by decide) (by rw [← e]; exact hk))
          clear h1 h4 hjl hml
          go_wp2
          refine bodyPost_ret (results_cell_row rfl _ _ gb 42 #[.int .i64 s, .slice Ao l.length co] (0, 0) _ rfl (by refine blk_put (cs := #[.int .i64 s, .slice none 0 0]) ?_ 1 _ rfl; refine blk_put (cs := #[.int .i64 0, .slice none 0 0]) ?_ 0 _ rfl; exact BK2.out) Try.underlying42 rfl (by kernel_rfl)) rfl ?_
          exact ⟨_, rfl, Kd.R_mono (Kd.R_far (p := ⟨gb, 1, none⟩) (Kd.R_far (p := ⟨gb, 0, none⟩) (Kd.R_tight rfl HR2.out) g3.out (.int .i64 s)) g3.out _) (fun _ _ => trivial), below_set (below_set HB2.out GE.out) GE.out⟩
    · replace cu := Bool.eq_false_iff.mpr cu
      subst cu
      rw [if_neg (by decide)] at h
      simp only [Option.some.injEq, Prod.mk.injEq] at h
      obtain ⟨rfl, rfl⟩ := h
      go_enter Try.func71, Try.ntmps71
      go_wp2_with (first | ((with_reducible refine gate_dst (N := 4) rfl ?_); refine box_event ?hg (N := 4) ?hd (cs := #[.int .i64 0, .slice none 0 0]) (t := 42) ?hr ?_; (case hd => rfl); (case hg => rfl); (case hr => first | (go_simp; done) | (go_simp; rfl)); intro gb hg w8 hbox hb; have HB := Aside0.mk hb; have BK := Aside0.mk hbox; have GE := Aside0.mk (show w.heap.size ≤ gb by rw [hg]; exact Nat.le_refl _); clear hb hbox hg) | (go_at_call 67; (with_reducible refine (impl_longList_int64.calls A0 c0 l0 false _ (Kd.C_below HR0.out HB.out) HC0.out AT.out).mono ?_); rintro e w' ⟨rfl, ⟨nd, hw_⟩⟩; obtain ⟨hb2_, hk2_⟩ := impl_Shuffle.keepD hw_ HB.out BK.out; clear HB BK hw_; have HB := Aside0.mk hb2_; have BK := Aside0.mk hk2_; clear hb2_ hk2_; (try clear hcz0 hcz1 hfz0 hfz1); have hcz0 : w'.cell? ⟨gb, 0, none⟩ = some (.int .i64 0) := (blk_cell BK.out 0).trans rfl; have hcz1 : w'.cell? ⟨gb, 1, none⟩ = some (.slice none 0 0) := (blk_cell BK.out 1).trans rfl; have hfz0 := blk_frozen BK.out 0; have hfz1 := blk_frozen BK.out 1) | (go_at_call 69; (with_reducible refine (impl_isSeed.calls a1 false _ AU.out).mono ?_); rintro e w' ⟨rfl, ⟨nd, hw_⟩⟩; obtain ⟨hb2_, hk2_⟩ := impl_Shuffle.keepD hw_ HB.out BK.out; clear HB BK hw_; have HB := Aside0.mk hb2_; have BK := Aside0.mk hk2_; clear hb2_ hk2_; (try clear hcz0 hcz1 hfz0 hfz1); have hcz0 : w'.cell? ⟨gb, 0, none⟩ = some (.int .i64 0) := (blk_cell BK.out 0).trans rfl; have hcz1 : w'.cell? ⟨gb, 1, none⟩ = some (.slice none 0 0) := (blk_cell BK.out 1).trans rfl; have hfz0 := blk_frozen BK.out 0; have hfz1 := blk_frozen BK.out 1))
      refine bodyPost_ret (results_cell_row rfl _ _ gb 42 #[.int .i64 0, .slice none 0 0] (0, 0) _ rfl (by refine blk_put (cs := #[.int .i64 0, .slice none 0 0]) ?_ 1 _ rfl; refine blk_put (cs := #[.int .i64 0, .slice none 0 0]) ?_ 0 _ rfl; exact BK.out) Try.underlying42 rfl (by kernel_rfl)) rfl ?_
      exact ⟨_, rfl, Kd.R_nil _ _ _ _ _, below_set (below_set HB.out GE.out) GE.out⟩

end Go.Proofs.Ytpadikfnnfnelaa.PFnExactTurnNext
