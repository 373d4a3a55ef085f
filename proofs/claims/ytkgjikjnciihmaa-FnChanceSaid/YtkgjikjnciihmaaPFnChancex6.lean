/- Laid by this session's program pp.py (over the kit's printer) out of the translation: Go functions as Lean functions, and that the calls come to them. -/
import Derived.Test.YtkgjikjnciihmaaPFnChancex0
import Derived.Test.YtkgjikjnciihmaaPFnChancex3
import Derived.Test.YtkgjikjnciihmaaPFnChancex4
import Derived.Test.YtkgjikjnciihmaaPFnChancex5
namespace Go.Proofs.Ytkgjikjnciihmaa.PFnChance
open Go.RowKit Go.Proofs.YtkgjikjnciihmaaW.PrintWords Go.Proofs.YtkgjikjnciihmaaW.PrintLast Go.Proofs.YtkgjikjnciihmaaW.PrintMore
attribute [local go_sem] max2_int min2_int max_two min_two max_three min_three max_four min_four   -- for this text's walks alone
set_option linter.unusedVariables false
set_option linter.unusedSimpArgs false

/-! ### impl_without: function 82, by a template -/
/-- Is it the one? -/
def impl_without.p (n : Int) (x : Int) : Bool := x == n
def impl_without.f (l0 : List Int) (a1 : Int) : Option (List Int) := if l0.length ≤ 140737488355328 then (slices_Clone_int64_int64.f l0).bind fun l => some (l.filter (fun x => !impl_without.p a1 x)) else none
set_option maxHeartbeats 8000000 in
set_option maxRecDepth 100000 in
theorem impl_without.asks (x : Int) (n : Int) (gb : Nat) (w : World) (hb : w.heap[gb]? = some (.cells #[.int .i64 n] 2 (0, 0))) :
    Calls Try.prog 98 #[.int .i64 x, .pointer (some ⟨gb, 0, none⟩)] w fun e w' => e = .returned (.bool (impl_without.p n x)) ∧ Below w.heap.size w w' := by
  have BK := Aside0.mk hb
  have h0 : w.cell? ⟨gb, 0, none⟩ = some (.int .i64 n) := (blk_cell hb 0).trans rfl
  clear hb
  unfold impl_without.p
  go_enter Try.func98, Try.ntmps98
  go_wp2
  go_ret
  exact ⟨rfl, Below.refl _ _⟩
set_option maxHeartbeats 8000000 in
set_option maxRecDepth 100000 in
theorem impl_without.index (A0 : Option Addr) (c0 : Nat) (l0 : List Int) (n : Int) (gb : Nat) (w : World) (hr0 : Kd.C (Kd.int .i64) w A0 l0.length l0) (hb : w.heap[gb]? = some (.cells #[.int .i64 n] 2 (0, 0))) (hl : l0.length ≤ 140737488355328) :
    Calls Try.prog 99 #[.slice A0 l0.length c0, .func (.func 98) #[] #[.pointer (some ⟨gb, 0, none⟩)]] w fun e w' => ∃ i : Int, e = .returned (.int .i64 i) ∧ ((i = -1 ∧ ∀ m, m < l0.length → impl_without.p n (l0.getD m (0 : Int)) = false) ∨ ∃ j : Nat, i = (j : Int) ∧ j < l0.length ∧ impl_without.p n (l0.getD j (0 : Int)) = true ∧ ∀ m, m < j → impl_without.p n (l0.getD m (0 : Int)) = false) ∧ Below w.heap.size w w' := by
  have HR0 := Aside0.mk hr0
  have BK := Aside0.mk hb
  have HL := Aside0.mk hl
  clear hr0 hb hl
  go_enter Try.func99, Try.ntmps99
  go_wp2
  go_loopg [5, 8] l0.length (fun gg s5 s8 wr => ∃ kk : Nat, s8 = .int .i64 (kk : Int) ∧ Aside0 (kk ≤ l0.length) ∧ Aside0 (l0.length - kk ≤ gg) ∧ Aside0 (∀ m, m < kk → impl_without.p n (l0.getD m (0 : Int)) = false) ∧ Aside0 (Below w.heap.size w wr))
  case atStart => exact ⟨0, rfl, ⟨Nat.zero_le _⟩, ⟨by omega⟩, ⟨fun m hm => absurd hm (Nat.not_lt_zero _)⟩, ⟨Below.refl _ _⟩⟩
  case round =>
    obtain ⟨kk, rfl, K1, G1, E1, HB⟩ := hrel
    by_cases hlt : kk < l0.length
    · have hltz : (kk : Int) < (l0.length : Int) := by omega
      obtain ⟨ad, e1, hx0⟩ := Kd.at_int (Kd.C_below HR0.out HB.out) (kk : Int) (by omega) hltz
      cases e1
      rw [Int.toNat_natCast] at hx0
      have hd : rd l0 (kk : Int) = l0.getD kk (0 : Int) := by simp [rd]
      rw [hd] at hx0
      have BK2 := Aside0.mk (blk_below BK.out HB.out)
      have LT := Aside0.mk hlt
      clear hd hlt
      generalize hxx : l0.getD kk (0 : Int) = x at *
      have XX := Aside0.mk hxx
      clear hxx
      obtain ⟨b, hb⟩ : ∃ b, impl_without.p n x = b := ⟨_, rfl⟩
      have PB := Aside0.mk hb
      clear hb
      have hask := impl_without.asks x n gb wr BK2.out
      rw [PB.out] at hask
      have HA := Aside0.mk hask
      clear hask
      cases b with
      | true =>
        go_wp2_with (go_at_call 98; refine HA.out.mono ?_; rintro e w' ⟨rfl, hb⟩; have HB2 := Aside0.mk (below_step HB.out hb); clear hb)
        go_ret
        exact ⟨(kk : Int), rfl, .inr ⟨kk, rfl, LT.out, by rw [XX.out]; exact PB.out, E1.out⟩, HB2.out⟩
      | false =>
        go_wp2_with (go_at_call 98; refine HA.out.mono ?_; rintro e w' ⟨rfl, hb⟩; have HB2 := Aside0.mk (below_step HB.out hb); clear hb)
        go_roundg (l0.length - (kk + 1))
        case measure => have := G1.out; have := LT.out; omega
        case rel =>
          refine ⟨kk + 1, ?_, ⟨by have := LT.out; omega⟩, ⟨Nat.le_refl _⟩, ⟨fun m hm => ?_⟩, HB2⟩
          · have := LT.out; have := HL.out
            first | rfl | (congr 1; omega) | (congr 1; unfold wrap64; omega) | go_num
          · rcases Nat.lt_or_ge m kk with h | h
            · exact E1.out m h
            · rw [show m = kk by omega, XX.out]; exact PB.out
    · have hltz : ¬ (kk : Int) < (l0.length : Int) := by omega
      have hk : kk = l0.length := by have := K1.out; omega
      subst hk
      go_wp2
      go_ret
      exact ⟨-1, rfl, .inl ⟨rfl, E1.out⟩, HB.out⟩
set_option maxHeartbeats 8000000 in
set_option maxRecDepth 100000 in
theorem impl_without.deletes (v : Value) (l0 : List Int) (n : Int) (gb base : Nat) (w : World) (hR : Kd.R (Kd.int .i64) 2 w base (fun _ => True) v l0) (hb : w.heap[gb]? = some (.cells #[.int .i64 n] 2 (0, 0))) (hgb : gb < base) (hbase : base ≤ w.heap.size) (hl : l0.length ≤ 140737488355328) :
    Calls Try.prog 97 #[v, .func (.func 98) #[] #[.pointer (some ⟨gb, 0, none⟩)]] w fun e w' => ∃ v' : Value, e = .returned v' ∧ Kd.R (Kd.int .i64) 2 w' base (fun _ => True) v' (l0.filter fun x => !impl_without.p n x) ∧ Below base w w' := by
  obtain ⟨A, c, rfl⟩ := Kd.R_slice hR
  have HR := Aside0.mk hR
  have BK := Aside0.mk hb
  have HL := Aside0.mk hl
  have HG := Aside0.mk hgb
  have HS := Aside0.mk hbase
  have HX := Aside0.mk (impl_without.index A c l0 n gb w (Kd.R_reads' hR).2.2 hb hl)
  clear hR hb hl hgb hbase
  go_enter Try.func97, Try.ntmps97
  go_upto_region 2 with (go_at_call 99; refine HX.out.mono ?_; rintro e w1 ⟨i, rfl, hi, hb⟩; have HI := Aside0.mk hi; have HB := Aside0.mk hb; clear hi hb)
  have hi := HI.out
  clear HI HX
  rcases hi with ⟨rfl, hall⟩ | ⟨j0, rfl, hj0, hp0, hlow⟩
  · have HA := Aside0.mk hall
    clear hall
    go_wp2
    go_ret
    refine ⟨_, rfl, ?_, HB.out.mono HS.out⟩
    have e : (l0.filter fun x => !impl_without.p n x) = l0 := by
      rw [List.filter_eq_self]
      intro x hx
      obtain ⟨m, hm, rfl⟩ := List.getElem_of_mem hx
      have := HA.out m hm
      simp only [List.getD, List.getElem?_eq_getElem hm, Option.getD_some] at this
      rw [this]; rfl
    rw [e]
    exact Kd.R_below HR.out HB.out
  · have hne : ((j0 : Int) == -1) = false := beq_eq_false_iff_ne.2 (by omega)
    have P0 := Aside0.mk hp0
    have LW := Aside0.mk hlow
    have LJ := Aside0.mk hj0
    clear hp0 hlow hj0
    obtain ⟨g, cp, eo, gb5, gl5, cl5, HG5⟩ := Kd.R_form HR.out (by have := LJ.out; omega)
    injection eo with ea en ec
    subst ea
    subst ec
    clear en gl5 HG5
    have GB := Aside0.mk gb5
    clear gb5
    go_wp2
    go_loopg [5, 6, 7] l0.length (fun gg s5 s6 s7 wr => ∃ (i j : Nat) (ys : List Int), s5 = .int .i64 (i : Int) ∧ s6 = .int .i64 (j : Int) ∧ Aside0 (i < j ∧ j ≤ l0.length ∧ l0.length - j ≤ gg) ∧ Aside0 (ys.length = l0.length ∧ ys.take i = (l0.take j).filter (fun x => !impl_without.p n x) ∧ ys.drop j = l0.drop j) ∧ Aside0 (Kd.R (Kd.int .i64) 2 wr base (fun _ => True) (.slice (some ⟨g, 0, none⟩) l0.length c) ys) ∧ Aside0 (wr.heap[gb]? = some (.cells #[.int .i64 n] 2 (0, 0))) ∧ Aside0 (Below base w wr) ∧ Aside0 (base ≤ wr.heap.size))
    case atStart =>
      refine ⟨j0, j0 + 1, l0, rfl, ?_, ⟨by omega, by have := LJ.out; omega, by omega⟩, ⟨rfl, ?_, rfl⟩, ⟨Kd.R_below HR.out HB.out⟩, ⟨blk_below BK.out HB.out⟩, ⟨HB.out.mono HS.out⟩, ⟨Nat.le_trans HS.out HB.out.size⟩⟩
      · have := LJ.out; have := HL.out
        first | rfl | (congr 1; omega) | (congr 1; unfold wrap64; omega) | go_num
      · have hj := LJ.out
        have hp := P0.out
        rw [List.take_add_one, List.filter_append]
        have e1 : (l0.take j0).filter (fun x => !impl_without.p n x) = l0.take j0 := by
          rw [List.filter_eq_self]
          intro x hx
          obtain ⟨m, hm, rfl⟩ := List.getElem_of_mem hx
          have hm2 : m < j0 := by rw [List.length_take] at hm; omega
          have := LW.out m hm2
          simp only [List.getD, List.getElem?_eq_getElem (show m < l0.length by omega), Option.getD_some] at this
          rw [List.getElem_take, this]; rfl
        simp only [List.getD, List.getElem?_eq_getElem hj, Option.getD_some] at hp
        rw [e1, List.getElem?_eq_getElem hj]
        simp [hp]
    case round =>
      obtain ⟨i, j, ys, rfl, rfl, IJ, YS, HR2, BK2, HB2, HS2⟩ := hrel
      clear HR BK HB HS LJ P0 LW
      have HRS := Aside0.mk HS2.out
      by_cases hlt : j < l0.length
      · have hltz : (j : Int) < (l0.length : Int) := by omega
        obtain ⟨hx0, hfx⟩ := Kd.R_celln 0 HR2.out (j : Int) (by omega) hltz
        rw [Int.toNat_natCast] at hx0
        have hd : rdOf 0 ys (j : Int) = ys.getD j 0 := by simp [rdOf]
        rw [hd] at hx0
        have JL := Aside0.mk hlt
        clear hlt hd hfx
        generalize hyx : ys.getD j (0 : Int) = x at *
        have YX := Aside0.mk hyx
        clear hyx
        obtain ⟨b, hb⟩ : ∃ b, impl_without.p n x = b := ⟨_, rfl⟩
        have PB := Aside0.mk hb
        clear hb
        have hask := impl_without.asks x n gb wr BK2.out
        rw [PB.out] at hask
        have HA := Aside0.mk hask
        clear hask
        cases b with
        | true =>
          go_wp2_with (go_at_call 98; refine HA.out.mono ?_; rintro e w' ⟨rfl, hb⟩; have R10 := Aside0.mk (Kd.R_below HR2.out hb); have K10 := Aside0.mk (blk_below BK2.out hb); have B10 := Aside0.mk (HB2.out.trans (hb.mono HS2.out)); have S10 := Aside0.mk (Nat.le_trans HS2.out hb.size); clear hb)
          go_roundg (l0.length - (j + 1))
          case measure => have := IJ.out; have := JL.out; omega
          case rel =>
            refine ⟨i, j + 1, ys, rfl, ?_, ⟨by have := IJ.out; omega, by have := JL.out; omega, Nat.le_refl _⟩, ⟨YS.out.1, ?_, ?_⟩, R10, K10, B10, S10⟩
            · have := JL.out; have := HL.out
              first | rfl | (congr 1; omega) | (congr 1; unfold wrap64; omega) | go_num
            · have h1 := YS.out
              have h2 := Go.Proofs.YtkgjikjnciihmaaH.skip_step (fun x => !impl_without.p n x) (0 : Int) l0 ys i j JL.out h1.1 h1.2.1 h1.2.2 (by rw [YX.out, PB.out]; rfl)
              exact h2.1
            · have h1 := YS.out
              have h2 := Go.Proofs.YtkgjikjnciihmaaH.skip_step (fun x => !impl_without.p n x) (0 : Int) l0 ys i j JL.out h1.1 h1.2.1 h1.2.2 (by rw [YX.out, PB.out]; rfl)
              exact h2.2
        | false =>
          go_upto_region 9 with (go_at_call 98; refine HA.out.mono ?_; rintro e w10 ⟨rfl, hb⟩; have R10 := Aside0.mk (Kd.R_below HR2.out hb); have K10 := Aside0.mk (blk_below BK2.out hb); have B10 := Aside0.mk (HB2.out.trans (hb.mono HS2.out)); have S10 := Aside0.mk (Nat.le_trans HS2.out hb.size); clear hb)
          clear hx0 HR2 BK2 HB2 HS2 HA
          have hil : (i : Int) < (l0.length : Int) := by have := IJ.out; have := JL.out; omega
          obtain ⟨hy0, hf0⟩ := Kd.R_celln 0 R10.out (i : Int) (by omega) hil
          have HP := Kd.R_putn R10.out (i : Int) x
          rw [Int.toNat_natCast] at hy0 hf0 HP
          have H1 := Aside0.mk HP
          clear HP
          have K11 := Aside0.mk (show gb ≠ g from by have h1 := GB.out; have h2 := HG.out; omega)
          generalize rdOf 0 ys (i : Int) = q0 at *
          have B11 := Aside0.mk (B10.out.setCell (p := ⟨g, i, none⟩) GB.out (.int .i64 x))
          have K12 := Aside0.mk (blk_far K10.out (p := ⟨g, i, none⟩) K11.out (.int .i64 x))
          go_wp2
          go_roundg (l0.length - (j + 1))
          case measure => have := IJ.out; have := JL.out; omega
          case rel =>
            have h1 := YS.out
            have h2 := Go.Proofs.YtkgjikjnciihmaaH.keep_step (fun x => !impl_without.p n x) (0 : Int) l0 ys i j IJ.out.1 JL.out h1.1 h1.2.1 h1.2.2 (by rw [YX.out, PB.out]; rfl)
            rw [YX.out] at h2
            refine ⟨i + 1, j + 1, ys.set i x, ?_, ?_, ⟨by have := IJ.out; omega, by have := JL.out; omega, Nat.le_refl _⟩, ⟨h2⟩, ⟨H1.out⟩, K12, B11, ⟨by simpa [World.setCell] using S10.out⟩⟩
            · have := JL.out; have := HL.out; have := IJ.out
              first | rfl | (congr 1; omega) | (congr 1; unfold wrap64; omega) | go_num
            · have := JL.out; have := HL.out
              first | rfl | (congr 1; omega) | (congr 1; unfold wrap64; omega) | go_num
      · have hltz : ¬ (j : Int) < (l0.length : Int) := by omega
        have hj : j = l0.length := by have := IJ.out; omega
        have hij := IJ.out.1
        subst hj
        have hil : (i : Int) < (l0.length : Int) := by omega
        have hile : (i : Int) ≤ (l0.length : Int) := by omega
        have hcap : l0.length ≤ c := (Kd.R_reads' HR2.out).2.1
        have hic : (i : Int) ≤ (c : Int) := by omega
        have hilc : (l0.length : Int) ≤ (c : Int) := by omega
        obtain ⟨i0, hi, hz0, hz1, hz2⟩ := info_parts info2
        have hcell : ∀ q, q < (l0.length - i) * 1 → (wr.cell? ⟨g, i + q, none⟩).isSome = true ∧ wr.frozen? ⟨g, i + q, none⟩ = false := by
          intro q hq
          obtain ⟨h1, h2⟩ := Kd.R_celln 0 HR2.out ((i + q : Nat) : Int) (by omega) (by omega)
          rw [Int.toNat_natCast] at h1 h2
          exact ⟨by rw [h1]; rfl, h2⟩
        obtain ⟨vs, hcl⟩ := Go.Proofs.YtkgjikjnciihmaaH.run_clear_row (P := Try.prog) wr 40 2 i0 _ Try.underlying40 hi hz0 (by decide) g i (l0.length - i) (c - i) (fun q hq => (hcell q hq).1) (fun q hq => (hcell q hq).2)
        have RC := Aside0.mk (Go.Proofs.YtkgjikjnciihmaaH.R_clear HR2.out i (by omega) i vs (by show i * 1 ≤ i; omega))
        have YS2 := YS
        clear hcell hi hz0 hz1 hz2 hcap
        go_wp2
        go_ret
        refine ⟨_, rfl, ?_, Go.Proofs.YtkgjikjnciihmaaH.below_setCells GB.out vs _ HB2.out⟩
        have h1 := YS.out.2.1
        rw [List.take_of_length_le (Nat.le_refl _)] at h1
        have h2 := RC.out
        rw [h1] at h2
        exact h2
set_option maxHeartbeats 8000000 in
set_option maxRecDepth 100000 in
theorem impl_without.calls (A0 : Option Addr) (c0 : Nat) (l0 : List Int) (a1 : Int) (r : List Int) (w : World) (hr0 : Kd.C (Kd.int .i64) w A0 l0.length l0) (hc0 : l0.length ≤ c0) (h : impl_without.f l0 a1 = some r) :
    Calls Try.prog 82 #[.slice A0 l0.length c0, .int .i64 a1] w fun e w' => ∃ v0_ : Value, e = .returned (v0_) ∧ Kd.R (Kd.int .i64) 2 w' w.heap.size (fun _ => True) v0_ r ∧ Below w.heap.size w w' := by
  have HR0 := Aside0.mk hr0
  have HC0 := Aside0.mk hc0
  clear hr0 hc0
  unfold impl_without.f at h
  by_cases hl : l0.length ≤ 140737488355328
  · rw [if_pos hl] at h
    replace h := Option.bind_eq_some_iff.mp h
    obtain ⟨l, hl2, h⟩ := h
    have hll : l = l0 := by
      unfold slices_Clone_int64_int64.f at hl2
      split at hl2
      · cases hl2; rfl
      · cases hl2
    have HL := Aside0.mk (show l.length ≤ 140737488355328 by rw [hll]; exact hl)
    have AL := Aside0.mk hl2
    clear hl hl2 hll
    obtain rfl := Option.some.inj h
    go_enter Try.func82, Try.ntmps82
    go_wp2_with (first | ((with_reducible refine gate_dst (N := 3) rfl ?_); refine box_event ?hg (N := 3) ?hd (cs := #[.int .i64 a1]) (t := 2) ?hr ?_; (case hd => rfl); (case hg => rfl); (case hr => first | (go_simp; done) | (go_simp; rfl)); intro gb hg w1 hbox hb; have HB := Aside0.mk hb; have BX := Aside0.mk hbox; clear hb hbox hg) | (go_at_call 70; (with_reducible refine (slices_Clone_int64_int64.calls A0 c0 l0 l _ (Kd.C_below HR0.out HB.out) HC0.out AL.out).mono ?_); rintro e w4 ⟨v0, rfl, ho, hb⟩; have RV := Aside0.mk ho; have HB4 := Aside0.mk (below_step HB.out hb); have BX4 := Aside0.mk (blk_below BX.out hb); have BS := Aside0.mk hb.size; have GBL := Aside0.mk (blk_lt BX.out); have W3 := Aside0.mk (below_size HB.out); clear HB BX ho hb) | (go_at_call 97; refine (impl_without.deletes v0 l a1 gb w1.heap.size w4 RV.out BX4.out GBL.out BS.out HL.out).mono ?_; rintro e w5 ⟨v1, rfl, ho, hb⟩; have RD := Aside0.mk ho; have HB5 := Aside0.mk (HB4.out.trans (hb.mono W3.out)); clear ho hb RV BX4))
    go_ret
    exact ⟨_, rfl, Kd.R_lower RD.out W3.out, HB5.out⟩
  · rw [if_neg hl] at h
    cases h

/-! ### impl_SetDrop: function 42 -/
def impl_SetDrop.f (k : Nat) (l0 : List Int) (a1 : Int) : Option (List Int) := (impl_longList_int64.f l0).bind fun t302 => (if t302 = true then (some ([] : List Int)) else ((impl_SetRight.f k l0).bind fun t303 => (if t303 = true then ((impl_without.f l0 a1).bind fun t304 => (some t304)) else ((slices_Clone_int64_int64.f l0).bind fun t307 => (some t307)))))
theorem impl_SetDrop.mono : ∀ a0 a1 k, LeO (impl_SetDrop.f k a0 a1) (impl_SetDrop.f (k + 1) a0 a1) := by
  intro a0 a1 k
  unfold impl_SetDrop.f
  repeat' first
      | (with_reducible exact impl_SetRight.mono _ _)
      | (with_reducible exact LeO.refl _)
      | (with_reducible exact LeO.none _)
      | (with_reducible refine LeO.ite ?_ ?_)
      | (with_reducible refine LeO.bind ?_ (fun _ => ?_))
      | exact impl_SetRight.mono _ _
      | exact LeO.none _
      | refine LeO.ite ?_ ?_
      | refine LeO.bind ?_ (fun _ => ?_)
set_option maxHeartbeats 8000000 in
set_option maxRecDepth 100000 in
theorem impl_SetDrop.calls (k : Nat) (A0 : Option Addr) (c0 : Nat) (l0 : List Int) (a1 : Int) (r : List Int) (w : World) (hr0 : Kd.C (Kd.int .i64) w A0 l0.length l0) (hc0 : l0.length ≤ c0) (h : impl_SetDrop.f k l0 a1 = some r) :
    Calls Try.prog 42 #[.slice A0 l0.length c0, .int .i64 a1] w fun e w' => ∃ v0_ : Value, e = .returned (v0_) ∧ Kd.R (Kd.int .i64) 2 w' w.heap.size (fun _ => True) v0_ r ∧ Below w.heap.size w w' := by
  have HR0 := Aside0.mk hr0
  have HC0 := Aside0.mk hc0
  clear hr0 hc0
  have HB := Aside0.mk (Below.refl w.heap.size w)
  have H : ((impl_longList_int64.f l0).bind fun t302 => (if t302 = true then (some ([] : List Int)) else ((impl_SetRight.f k l0).bind fun t303 => (if t303 = true then ((impl_without.f l0 a1).bind fun t304 => (some t304)) else ((slices_Clone_int64_int64.f l0).bind fun t307 => (some t307)))))) = some r := h
  clear h
  replace H := Option.bind_eq_some_iff.mp H
  obtain ⟨t302, A30, H⟩ := H
  replace H : (if t302 = true then (some ([] : List Int)) else ((impl_SetRight.f k l0).bind fun t303 => (if t303 = true then ((impl_without.f l0 a1).bind fun t304 => (some t304)) else ((slices_Clone_int64_int64.f l0).bind fun t307 => (some t307))))) = some r := H
  have A3 := Aside0.mk A30
  clear A30
  by_cases c4 : t302 = true
  · subst c4
    have H1 : (some ([] : List Int)) = some r := by rw [if_pos rfl] at H; exact H
    clear H
    have H := H1
    clear H1
    obtain rfl := Option.some.inj H
    go_enter Try.func42, Try.ntmps42
    go_wp2_with (first | ((with_reducible refine gate_callee (f := 66) rfl ?_); refine goesL_ (some 6) rfl rfl Try.func66 (by kernel_rfl) rfl #[.slice A0 l0.length c0] rfl (by (try simp only [List.map_toArray, List.map_cons, List.map_nil]); first | done | rfl | (simp only [List.length_drop, List.length_take]; rfl)) ?_; (with_reducible refine (impl_longList_int64.calls _ _ l0 true _ ?side1 ?side2 A3.out).mono ?_); (case side1 => repeat (first | exact HR0.out | (with_reducible refine Kd.C_alloc ?_ _) | (with_reducible refine Kd.C_drewN ?_ _) | (with_reducible refine Kd.C_drew ?_))); (case side2 => exact HC0.out); rintro e w' ⟨rfl, ⟨nd, rfl⟩⟩; refine ⟨_, rfl, ?_⟩))
    go_ret
    exact ⟨_, by first | rfl | (simp [errW_none, errW_some] <;> rfl) | (simp [*, errW_none, errW_some] <;> rfl), by first | exact Kd.R_nil _ _ _ _ _ | exact Kd.N_nil _ _ _ _ _ | exact Kd.V_nil _ _ _ _ _ | exact Kd.Q_nil _ _ _ _ _ | exact Kd.S_nil _ _ _ _ _, by repeat (first | (with_reducible first | exact HB.out | apply below_alloc | apply pw_below_drewN | apply below_drew1) | exact HB.out)⟩
  · replace c4 := Bool.eq_false_iff.mpr c4
    subst c4
    have H1 : ((impl_SetRight.f k l0).bind fun t303 => (if t303 = true then ((impl_without.f l0 a1).bind fun t304 => (some t304)) else ((slices_Clone_int64_int64.f l0).bind fun t307 => (some t307)))) = some r := by rw [if_neg (show ¬ (false = true) by decide)] at H; exact H
    clear H
    have H := H1
    clear H1
    replace H := Option.bind_eq_some_iff.mp H
    obtain ⟨t303, A50, H⟩ := H
    replace H : (if t303 = true then ((impl_without.f l0 a1).bind fun t304 => (some t304)) else ((slices_Clone_int64_int64.f l0).bind fun t307 => (some t307))) = some r := H
    have A5 := Aside0.mk A50
    clear A50
    by_cases c6 : t303 = true
    · subst c6
      have H1 : ((impl_without.f l0 a1).bind fun t304 => (some t304)) = some r := by rw [if_pos rfl] at H; exact H
      clear H
      have H := H1
      clear H1
      replace H := Option.bind_eq_some_iff.mp H
      obtain ⟨t304, A70, H⟩ := H
      replace H : (some t304) = some r := H
      have A7 := Aside0.mk A70
      clear A70
      obtain rfl := Option.some.inj H
      go_enter Try.func42, Try.ntmps42
      go_wp2_with (first | ((with_reducible refine gate_callee (f := 66) rfl ?_); refine goesL_ (some 6) rfl rfl Try.func66 (by kernel_rfl) rfl #[.slice A0 l0.length c0] rfl (by (try simp only [List.map_toArray, List.map_cons, List.map_nil]); first | done | rfl | (simp only [List.length_drop, List.length_take]; rfl)) ?_; (with_reducible refine (impl_longList_int64.calls _ _ l0 false _ ?side1 ?side2 A3.out).mono ?_); (case side1 => repeat (first | exact HR0.out | (with_reducible refine Kd.C_alloc ?_ _) | (with_reducible refine Kd.C_drewN ?_ _) | (with_reducible refine Kd.C_drew ?_))); (case side2 => exact HC0.out); rintro e w' ⟨rfl, ⟨nd, rfl⟩⟩; refine ⟨_, rfl, ?_⟩) | ((with_reducible refine gate_callee (f := 48) rfl ?_); refine goesL_ (some 8) rfl rfl Try.func48 (by kernel_rfl) rfl #[.slice A0 l0.length c0] rfl (by (try simp only [List.map_toArray, List.map_cons, List.map_nil]); first | done | rfl | (simp only [List.length_drop, List.length_take]; rfl)) ?_; (with_reducible refine (impl_SetRight.calls k _ _ l0 true _ ?side1 ?side2 A5.out).mono ?_); (case side1 => repeat (first | exact HR0.out | (with_reducible refine Kd.C_alloc ?_ _) | (with_reducible refine Kd.C_drewN ?_ _) | (with_reducible refine Kd.C_drew ?_))); (case side2 => exact HC0.out); rintro e w' ⟨rfl, ⟨nd, rfl⟩⟩; refine ⟨_, rfl, ?_⟩) | ((with_reducible refine gate_callee (f := 82) rfl ?_); refine goesL_ (some 14) rfl rfl Try.func82 (by kernel_rfl) rfl #[.slice A0 l0.length c0, .int .i64 a1] rfl (by (try simp only [List.map_toArray, List.map_cons, List.map_nil]); first | done | rfl | (simp only [List.length_drop, List.length_take]; rfl)) ?_; (with_reducible refine (impl_without.calls _ _ l0 a1 t304 _ ?side1 ?side2 A7.out).mono ?_); (case side1 => repeat (first | exact HR0.out | (with_reducible refine Kd.C_alloc ?_ _) | (with_reducible refine Kd.C_drewN ?_ _) | (with_reducible refine Kd.C_drew ?_))); (case side2 => exact HC0.out); rintro e w8 ⟨v305, rfl, ho0, hb⟩; refine ⟨_, rfl, ?_⟩; have n0_ := Aside0.mk (Kd.R_lower ho0 (below_size (by repeat (first | (with_reducible first | exact HB.out | apply below_alloc | apply pw_below_drewN | apply below_drew1) | exact HB.out)))); have n1_ := Aside0.mk (below_step (by repeat (first | (with_reducible first | exact HB.out | apply below_alloc | apply pw_below_drewN | apply below_drew1) | exact HB.out)) hb); clear HB; have HO306 := n0_; have HB := n1_; clear n0_ n1_; (try clear hb); (try clear hb2); (try clear hk); (try clear hi); (try clear ho0)))
      go_ret
      exact ⟨_, by first | rfl | (simp [errW_none, errW_some] <;> rfl) | (simp [*, errW_none, errW_some] <;> rfl), by (with_reducible repeat (first | apply Kd.R_alloc | apply Kd.R_drewN | apply Kd.R_drew)); exact HO306.out, by repeat (first | (with_reducible first | exact HB.out | apply below_alloc | apply pw_below_drewN | apply below_drew1) | exact HB.out)⟩
    · replace c6 := Bool.eq_false_iff.mpr c6
      subst c6
      have H1 : ((slices_Clone_int64_int64.f l0).bind fun t307 => (some t307)) = some r := by rw [if_neg (show ¬ (false = true) by decide)] at H; exact H
      clear H
      have H := H1
      clear H1
      replace H := Option.bind_eq_some_iff.mp H
      obtain ⟨t307, A90, H⟩ := H
      replace H : (some t307) = some r := H
      have A9 := Aside0.mk A90
      clear A90
      obtain rfl := Option.some.inj H
      go_enter Try.func42, Try.ntmps42
      go_wp2_with (first | ((with_reducible refine gate_callee (f := 66) rfl ?_); refine goesL_ (some 6) rfl rfl Try.func66 (by kernel_rfl) rfl #[.slice A0 l0.length c0] rfl (by (try simp only [List.map_toArray, List.map_cons, List.map_nil]); first | done | rfl | (simp only [List.length_drop, List.length_take]; rfl)) ?_; (with_reducible refine (impl_longList_int64.calls _ _ l0 false _ ?side1 ?side2 A3.out).mono ?_); (case side1 => repeat (first | exact HR0.out | (with_reducible refine Kd.C_alloc ?_ _) | (with_reducible refine Kd.C_drewN ?_ _) | (with_reducible refine Kd.C_drew ?_))); (case side2 => exact HC0.out); rintro e w' ⟨rfl, ⟨nd, rfl⟩⟩; refine ⟨_, rfl, ?_⟩) | ((with_reducible refine gate_callee (f := 48) rfl ?_); refine goesL_ (some 8) rfl rfl Try.func48 (by kernel_rfl) rfl #[.slice A0 l0.length c0] rfl (by (try simp only [List.map_toArray, List.map_cons, List.map_nil]); first | done | rfl | (simp only [List.length_drop, List.length_take]; rfl)) ?_; (with_reducible refine (impl_SetRight.calls k _ _ l0 false _ ?side1 ?side2 A5.out).mono ?_); (case side1 => repeat (first | exact HR0.out | (with_reducible refine Kd.C_alloc ?_ _) | (with_reducible refine Kd.C_drewN ?_ _) | (with_reducible refine Kd.C_drew ?_))); (case side2 => exact HC0.out); rintro e w' ⟨rfl, ⟨nd, rfl⟩⟩; refine ⟨_, rfl, ?_⟩) | ((with_reducible refine gate_callee (f := 70) rfl ?_); refine goesL_ (some 11) rfl rfl Try.func70 (by kernel_rfl) rfl #[.slice A0 l0.length c0] rfl (by (try simp only [List.map_toArray, List.map_cons, List.map_nil]); first | done | rfl | (simp only [List.length_drop, List.length_take]; rfl)) ?_; (with_reducible refine (slices_Clone_int64_int64.calls _ _ l0 t307 _ ?side1 ?side2 A9.out).mono ?_); (case side1 => repeat (first | exact HR0.out | (with_reducible refine Kd.C_alloc ?_ _) | (with_reducible refine Kd.C_drewN ?_ _) | (with_reducible refine Kd.C_drew ?_))); (case side2 => exact HC0.out); rintro e w10 ⟨v308, rfl, ho0, hb⟩; refine ⟨_, rfl, ?_⟩; have n0_ := Aside0.mk (Kd.R_lower ho0 (below_size (by repeat (first | (with_reducible first | exact HB.out | apply below_alloc | apply pw_below_drewN | apply below_drew1) | exact HB.out)))); have n1_ := Aside0.mk (below_step (by repeat (first | (with_reducible first | exact HB.out | apply below_alloc | apply pw_below_drewN | apply below_drew1) | exact HB.out)) hb); clear HB; have HO309 := n0_; have HB := n1_; clear n0_ n1_; (try clear hb); (try clear hb2); (try clear hk); (try clear hi); (try clear ho0)))
      go_ret
      exact ⟨_, by first | rfl | (simp [errW_none, errW_some] <;> rfl) | (simp [*, errW_none, errW_some] <;> rfl), by (with_reducible repeat (first | apply Kd.R_alloc | apply Kd.R_drewN | apply Kd.R_drew)); exact HO309.out, by repeat (first | (with_reducible first | exact HB.out | apply below_alloc | apply pw_below_drewN | apply below_drew1) | exact HB.out)⟩

/-! ### spec_Chance: function 43 -/
def spec_Chance.f (a0 : Int) (a1 : Int) : Option (Int × Int) := (spec_l02Seed.f a0).bind fun t311 => (if t311 = true then ((spec_l02Is.f a1 1 1000000).bind fun t312 => (if t312 = true then ((spec_l02Draw.f a0 a1).bind fun bt313 => (some (bt313.1, bt313.2))) else (some (0, 0)))) else (some (0, 0)))
set_option maxHeartbeats 8000000 in
set_option maxRecDepth 100000 in
theorem spec_Chance.calls (a0 : Int) (a1 : Int) (r1 : Int) (r2 : Int) (w : World) (h : spec_Chance.f a0 a1 = some (r1, r2)) :
    Calls Try.prog 43 #[.int .i64 a0, .int .i64 a1] w fun e w' => e = .returned (.agg #[.int .i64 r1, .int .i64 r2]) ∧ Below w.heap.size w w' := by
  have hu60 := Try.underlying60
  have HB := Aside0.mk (Below.refl w.heap.size w)
  have H : ((spec_l02Seed.f a0).bind fun t311 => (if t311 = true then ((spec_l02Is.f a1 1 1000000).bind fun t312 => (if t312 = true then ((spec_l02Draw.f a0 a1).bind fun bt313 => (some (bt313.1, bt313.2))) else (some (0, 0)))) else (some (0, 0)))) = some (r1, r2) := h
  clear h
  replace H := Option.bind_eq_some_iff.mp H
  obtain ⟨t311, A30, H⟩ := H
  replace H : (if t311 = true then ((spec_l02Is.f a1 1 1000000).bind fun t312 => (if t312 = true then ((spec_l02Draw.f a0 a1).bind fun bt313 => (some (bt313.1, bt313.2))) else (some (0, 0)))) else (some (0, 0))) = some (r1, r2) := H
  have A3 := Aside0.mk A30
  clear A30
  by_cases c4 : t311 = true
  · subst c4
    have H1 : ((spec_l02Is.f a1 1 1000000).bind fun t312 => (if t312 = true then ((spec_l02Draw.f a0 a1).bind fun bt313 => (some (bt313.1, bt313.2))) else (some (0, 0)))) = some (r1, r2) := by rw [if_pos rfl] at H; exact H
    clear H
    have H := H1
    clear H1
    replace H := Option.bind_eq_some_iff.mp H
    obtain ⟨t312, A50, H⟩ := H
    replace H : (if t312 = true then ((spec_l02Draw.f a0 a1).bind fun bt313 => (some (bt313.1, bt313.2))) else (some (0, 0))) = some (r1, r2) := H
    have A5 := Aside0.mk A50
    clear A50
    by_cases c6 : t312 = true
    · subst c6
      have H1 : ((spec_l02Draw.f a0 a1).bind fun bt313 => (some (bt313.1, bt313.2))) = some (r1, r2) := by rw [if_pos rfl] at H; exact H
      clear H
      have H := H1
      clear H1
      replace H := Option.bind_eq_some_iff.mp H
      obtain ⟨⟨t313, t314⟩, A70, H⟩ := H
      replace H : (some (t313, t314)) = some (r1, r2) := H
      have A7 := Aside0.mk A70
      clear A70
      simp only [Option.some.injEq, Prod.mk.injEq] at H
      obtain ⟨rfl, rfl⟩ := H
      go_enter Try.func43, Try.ntmps43
      go_wp2_with (first | ((with_reducible refine gate_dst (N := 4) rfl ?_); refine box_event ?hg (N := 4) ?hd (cs := #[.int .i64 0, .int .i64 0]) (t := 60) ?hr ?_; (case hd => rfl); (case hg => rfl); (case hr => first | (go_simp; done) | (go_simp; rfl)); intro gb310 hg w8 hbox hb; have n0_ := Aside0.mk (below_step (by repeat (first | (with_reducible first | exact HB.out | apply below_alloc | apply pw_below_drewN | apply below_drew1) | exact HB.out)) hb); have n1_ := Aside0.mk (hbox); have n2_ := Aside0.mk ((by rw [hg]; exact (below_size (by repeat (first | (with_reducible first | exact HB.out | apply below_alloc | apply pw_below_drewN | apply below_drew1) | exact HB.out))) : w.heap.size ≤ gb310)); have n3_ := Aside0.mk ((by rw [hg]; exact (below_size (by repeat (first | (with_reducible first | exact HB.out | apply below_alloc | apply pw_below_drewN | apply below_drew1) | exact HB.out))) : w.heap.size ≤ gb310)); clear HB; have HB := n0_; have BK310 := n1_; have GW310 := n2_; have GE310 := n3_; clear n0_ n1_ n2_ n3_; clear hb hbox hg) | ((with_reducible refine gate_callee (f := 72) rfl ?_); refine goesL_ (some 6) rfl rfl Try.func72 (by kernel_rfl) rfl #[.int .i64 a0] rfl (by (try simp only [List.map_toArray, List.map_cons, List.map_nil]); first | done | rfl | (simp only [List.length_drop, List.length_take]; rfl)) ?_; (with_reducible refine (spec_l02Seed.calls a0 true _ A3.out).mono ?_); rintro e w' ⟨rfl, ⟨nd, rfl⟩⟩; refine ⟨_, rfl, ?_⟩; (try (rw [drewN_self w8]; generalize hq_ : World.drewN w8 _ = w8; have n0_ : Aside0 (w8.heap[gb310]? = some (.cells #[.int .i64 0, .int .i64 0] 60 (0, 0))) := ⟨by rw [← hq_]; exact (by (with_reducible repeat (first | refine blk_drewN ?_ _ | refine blk_drew ?_ | refine blk_alloc ?_ _)); exact BK310.out)⟩; have n1_ : Aside0 (Below w.heap.size w w8) := ⟨by rw [← hq_]; exact (by repeat (first | (with_reducible first | exact HB.out | apply below_alloc | apply pw_below_drewN | apply below_drew1 | refine below_set ?_ GE310.out) | exact HB.out))⟩; clear BK310 HB hq_; have BK310 := n0_; have HB := n1_; clear n0_ n1_))) | (go_at_call 73; (with_reducible refine (spec_l02Is.calls a1 1 1000000 true _ A5.out).mono ?_); rintro e w' ⟨rfl, ⟨nd, rfl⟩⟩; (try (rw [drewN_self w8]; generalize hq_ : World.drewN w8 _ = w8; have n0_ : Aside0 (w8.heap[gb310]? = some (.cells #[.int .i64 0, .int .i64 0] 60 (0, 0))) := ⟨by rw [← hq_]; exact (by (with_reducible repeat (first | refine blk_drewN ?_ _ | refine blk_drew ?_ | refine blk_alloc ?_ _)); exact BK310.out)⟩; have n1_ : Aside0 (Below w.heap.size w w8) := ⟨by rw [← hq_]; exact (by repeat (first | (with_reducible first | exact HB.out | apply below_alloc | apply pw_below_drewN | apply below_drew1 | refine below_set ?_ GE310.out) | exact HB.out))⟩; clear BK310 HB hq_; have BK310 := n0_; have HB := n1_; clear n0_ n1_))) | ((with_reducible refine gate_callee (f := 83) rfl ?_); refine goesL_ (some 16) rfl rfl Try.func83 (by kernel_rfl) rfl #[.int .i64 a0, .int .i64 a1] rfl (by (try simp only [List.map_toArray, List.map_cons, List.map_nil]); first | done | rfl | (simp only [List.length_drop, List.length_take]; rfl)) ?_; (with_reducible refine (spec_l02Draw.calls a0 a1 t313 t314 _ A7.out).mono ?_); rintro e w9 ⟨rfl, hb⟩; refine ⟨_, rfl, ?_⟩; have n0_ := Aside0.mk (blk_below (g := gb310) (o := .cells #[.int .i64 0, .int .i64 0] 60 (0, 0)) (by (with_reducible repeat (first | refine blk_drewN ?_ _ | refine blk_drew ?_ | refine blk_alloc ?_ _)); exact BK310.out) hb); have n1_ := Aside0.mk (below_step (by repeat (first | (with_reducible first | exact HB.out | apply below_alloc | apply pw_below_drewN | apply below_drew1 | refine below_set ?_ GE310.out) | exact HB.out)) hb); clear BK310; clear HB; have BK310 := n0_; have HB := n1_; clear n0_ n1_; (try clear hb); (try clear hb2); (try clear hk); (try clear hi); have hcz10_0 : w9.cell? ⟨gb310, 0, none⟩ = some (.int .i64 0) := (blk_cell BK310.out 0).trans rfl; have hcz10_1 : w9.cell? ⟨gb310, 1, none⟩ = some (.int .i64 0) := (blk_cell BK310.out 1).trans rfl; have hfz10_0 := blk_frozen BK310.out 0; have hfz10_1 := blk_frozen BK310.out 1))
      refine bodyPost_ret (results_cell_row rfl _ _ gb310 60 #[.int .i64 t313, .int .i64 t314] (0, 0) _ rfl (by (with_reducible repeat (first | refine blk_drewN ?_ _ | refine blk_drew ?_ | refine blk_alloc ?_ _)); refine blk_put (cs := #[.int .i64 t313, .int .i64 0]) ?_ 1 _ rfl; (with_reducible repeat (first | refine blk_drewN ?_ _ | refine blk_drew ?_ | refine blk_alloc ?_ _)); refine blk_put (cs := #[.int .i64 0, .int .i64 0]) ?_ 0 _ rfl; (with_reducible repeat (first | refine blk_drewN ?_ _ | refine blk_drew ?_ | refine blk_alloc ?_ _)); exact BK310.out) Try.underlying60 rfl (by kernel_rfl)) rfl ?_
      exact ⟨by first | rfl | (simp [errW_none, errW_some] <;> rfl) | (simp [*, errW_none, errW_some] <;> rfl), by repeat (first | (with_reducible first | exact HB.out | apply below_alloc | apply pw_below_drewN | apply below_drew1 | refine below_set ?_ GE310.out) | exact HB.out)⟩
    · replace c6 := Bool.eq_false_iff.mpr c6
      subst c6
      have H1 : (some (0, 0)) = some (r1, r2) := by rw [if_neg (show ¬ (false = true) by decide)] at H; exact H
      clear H
      have H := H1
      clear H1
      simp only [Option.some.injEq, Prod.mk.injEq] at H
      obtain ⟨rfl, rfl⟩ := H
      go_enter Try.func43, Try.ntmps43
      go_wp2_with (first | ((with_reducible refine gate_dst (N := 4) rfl ?_); refine box_event ?hg (N := 4) ?hd (cs := #[.int .i64 0, .int .i64 0]) (t := 60) ?hr ?_; (case hd => rfl); (case hg => rfl); (case hr => first | (go_simp; done) | (go_simp; rfl)); intro gb310 hg w11 hbox hb; have n0_ := Aside0.mk (below_step (by repeat (first | (with_reducible first | exact HB.out | apply below_alloc | apply pw_below_drewN | apply below_drew1) | exact HB.out)) hb); have n1_ := Aside0.mk (hbox); have n2_ := Aside0.mk ((by rw [hg]; exact (below_size (by repeat (first | (with_reducible first | exact HB.out | apply below_alloc | apply pw_below_drewN | apply below_drew1) | exact HB.out))) : w.heap.size ≤ gb310)); have n3_ := Aside0.mk ((by rw [hg]; exact (below_size (by repeat (first | (with_reducible first | exact HB.out | apply below_alloc | apply pw_below_drewN | apply below_drew1) | exact HB.out))) : w.heap.size ≤ gb310)); clear HB; have HB := n0_; have BK310 := n1_; have GW310 := n2_; have GE310 := n3_; clear n0_ n1_ n2_ n3_; clear hb hbox hg) | ((with_reducible refine gate_callee (f := 72) rfl ?_); refine goesL_ (some 6) rfl rfl Try.func72 (by kernel_rfl) rfl #[.int .i64 a0] rfl (by (try simp only [List.map_toArray, List.map_cons, List.map_nil]); first | done | rfl | (simp only [List.length_drop, List.length_take]; rfl)) ?_; (with_reducible refine (spec_l02Seed.calls a0 true _ A3.out).mono ?_); rintro e w' ⟨rfl, ⟨nd, rfl⟩⟩; refine ⟨_, rfl, ?_⟩; (try (rw [drewN_self w11]; generalize hq_ : World.drewN w11 _ = w11; have n0_ : Aside0 (w11.heap[gb310]? = some (.cells #[.int .i64 0, .int .i64 0] 60 (0, 0))) := ⟨by rw [← hq_]; exact (by (with_reducible repeat (first | refine blk_drewN ?_ _ | refine blk_drew ?_ | refine blk_alloc ?_ _)); exact BK310.out)⟩; have n1_ : Aside0 (Below w.heap.size w w11) := ⟨by rw [← hq_]; exact (by repeat (first | (with_reducible first | exact HB.out | apply below_alloc | apply pw_below_drewN | apply below_drew1 | refine below_set ?_ GE310.out) | exact HB.out))⟩; clear BK310 HB hq_; have BK310 := n0_; have HB := n1_; clear n0_ n1_))) | (go_at_call 73; (with_reducible refine (spec_l02Is.calls a1 1 1000000 false _ A5.out).mono ?_); rintro e w' ⟨rfl, ⟨nd, rfl⟩⟩; (try (rw [drewN_self w11]; generalize hq_ : World.drewN w11 _ = w11; have n0_ : Aside0 (w11.heap[gb310]? = some (.cells #[.int .i64 0, .int .i64 0] 60 (0, 0))) := ⟨by rw [← hq_]; exact (by (with_reducible repeat (first | refine blk_drewN ?_ _ | refine blk_drew ?_ | refine blk_alloc ?_ _)); exact BK310.out)⟩; have n1_ : Aside0 (Below w.heap.size w w11) := ⟨by rw [← hq_]; exact (by repeat (first | (with_reducible first | exact HB.out | apply below_alloc | apply pw_below_drewN | apply below_drew1 | refine below_set ?_ GE310.out) | exact HB.out))⟩; clear BK310 HB hq_; have BK310 := n0_; have HB := n1_; clear n0_ n1_)); have hcz12_0 : w11.cell? ⟨gb310, 0, none⟩ = some (.int .i64 0) := (blk_cell BK310.out 0).trans rfl; have hcz12_1 : w11.cell? ⟨gb310, 1, none⟩ = some (.int .i64 0) := (blk_cell BK310.out 1).trans rfl; have hfz12_0 := blk_frozen BK310.out 0; have hfz12_1 := blk_frozen BK310.out 1))
      refine bodyPost_ret (results_cell_row rfl _ _ gb310 60 #[.int .i64 0, .int .i64 0] (0, 0) _ rfl (by (with_reducible repeat (first | refine blk_drewN ?_ _ | refine blk_drew ?_ | refine blk_alloc ?_ _)); refine blk_put (cs := #[.int .i64 0, .int .i64 0]) ?_ 1 _ rfl; (with_reducible repeat (first | refine blk_drewN ?_ _ | refine blk_drew ?_ | refine blk_alloc ?_ _)); refine blk_put (cs := #[.int .i64 0, .int .i64 0]) ?_ 0 _ rfl; (with_reducible repeat (first | refine blk_drewN ?_ _ | refine blk_drew ?_ | refine blk_alloc ?_ _)); exact BK310.out) Try.underlying60 rfl (by kernel_rfl)) rfl ?_
      exact ⟨by first | rfl | (simp [errW_none, errW_some] <;> rfl) | (simp [*, errW_none, errW_some] <;> rfl), by repeat (first | (with_reducible first | exact HB.out | apply below_alloc | apply pw_below_drewN | apply below_drew1 | refine below_set ?_ GE310.out) | exact HB.out)⟩
  · replace c4 := Bool.eq_false_iff.mpr c4
    subst c4
    have H1 : (some (0, 0)) = some (r1, r2) := by rw [if_neg (show ¬ (false = true) by decide)] at H; exact H
    clear H
    have H := H1
    clear H1
    simp only [Option.some.injEq, Prod.mk.injEq] at H
    obtain ⟨rfl, rfl⟩ := H
    go_enter Try.func43, Try.ntmps43
    go_wp2_with (first | ((with_reducible refine gate_dst (N := 4) rfl ?_); refine box_event ?hg (N := 4) ?hd (cs := #[.int .i64 0, .int .i64 0]) (t := 60) ?hr ?_; (case hd => rfl); (case hg => rfl); (case hr => first | (go_simp; done) | (go_simp; rfl)); intro gb310 hg w13 hbox hb; have n0_ := Aside0.mk (below_step (by repeat (first | (with_reducible first | exact HB.out | apply below_alloc | apply pw_below_drewN | apply below_drew1) | exact HB.out)) hb); have n1_ := Aside0.mk (hbox); have n2_ := Aside0.mk ((by rw [hg]; exact (below_size (by repeat (first | (with_reducible first | exact HB.out | apply below_alloc | apply pw_below_drewN | apply below_drew1) | exact HB.out))) : w.heap.size ≤ gb310)); have n3_ := Aside0.mk ((by rw [hg]; exact (below_size (by repeat (first | (with_reducible first | exact HB.out | apply below_alloc | apply pw_below_drewN | apply below_drew1) | exact HB.out))) : w.heap.size ≤ gb310)); clear HB; have HB := n0_; have BK310 := n1_; have GW310 := n2_; have GE310 := n3_; clear n0_ n1_ n2_ n3_; clear hb hbox hg) | ((with_reducible refine gate_callee (f := 72) rfl ?_); refine goesL_ (some 6) rfl rfl Try.func72 (by kernel_rfl) rfl #[.int .i64 a0] rfl (by (try simp only [List.map_toArray, List.map_cons, List.map_nil]); first | done | rfl | (simp only [List.length_drop, List.length_take]; rfl)) ?_; (with_reducible refine (spec_l02Seed.calls a0 false _ A3.out).mono ?_); rintro e w' ⟨rfl, ⟨nd, rfl⟩⟩; refine ⟨_, rfl, ?_⟩; (try (rw [drewN_self w13]; generalize hq_ : World.drewN w13 _ = w13; have n0_ : Aside0 (w13.heap[gb310]? = some (.cells #[.int .i64 0, .int .i64 0] 60 (0, 0))) := ⟨by rw [← hq_]; exact (by (with_reducible repeat (first | refine blk_drewN ?_ _ | refine blk_drew ?_ | refine blk_alloc ?_ _)); exact BK310.out)⟩; have n1_ : Aside0 (Below w.heap.size w w13) := ⟨by rw [← hq_]; exact (by repeat (first | (with_reducible first | exact HB.out | apply below_alloc | apply pw_below_drewN | apply below_drew1 | refine below_set ?_ GE310.out) | exact HB.out))⟩; clear BK310 HB hq_; have BK310 := n0_; have HB := n1_; clear n0_ n1_)); have hcz14_0 : w13.cell? ⟨gb310, 0, none⟩ = some (.int .i64 0) := (blk_cell BK310.out 0).trans rfl; have hcz14_1 : w13.cell? ⟨gb310, 1, none⟩ = some (.int .i64 0) := (blk_cell BK310.out 1).trans rfl; have hfz14_0 := blk_frozen BK310.out 0; have hfz14_1 := blk_frozen BK310.out 1))
    refine bodyPost_ret (results_cell_row rfl _ _ gb310 60 #[.int .i64 0, .int .i64 0] (0, 0) _ rfl (by (with_reducible repeat (first | refine blk_drewN ?_ _ | refine blk_drew ?_ | refine blk_alloc ?_ _)); refine blk_put (cs := #[.int .i64 0, .int .i64 0]) ?_ 1 _ rfl; (with_reducible repeat (first | refine blk_drewN ?_ _ | refine blk_drew ?_ | refine blk_alloc ?_ _)); refine blk_put (cs := #[.int .i64 0, .int .i64 0]) ?_ 0 _ rfl; (with_reducible repeat (first | refine blk_drewN ?_ _ | refine blk_drew ?_ | refine blk_alloc ?_ _)); exact BK310.out) Try.underlying60 rfl (by kernel_rfl)) rfl ?_
    exact ⟨by first | rfl | (simp [errW_none, errW_some] <;> rfl) | (simp [*, errW_none, errW_some] <;> rfl), by repeat (first | (with_reducible first | exact HB.out | apply below_alloc | apply pw_below_drewN | apply below_drew1 | refine below_set ?_ GE310.out) | exact HB.out)⟩

/-! ### spec_SetRight: function 49 -/
def spec_SetRight.l0 : Nat → List Int → Int → Option (Bool)
  | 0, _, _ => none
  | k + 1, x0, x3 => if x3 < (x0.length : Int) then (if 0 ≤ (wrap64 (x3 - 1)) then (if (wrap64 (x3 - 1)) < (x0.length : Int) then (if 0 ≤ x3 then (if (rd x0 (wrap64 (x3 - 1))) ≥ (rd x0 x3) then (some false) else (spec_SetRight.l0 k x0 (wrap64 (x3 + 1)))) else (none)) else (none)) else (none)) else (some true)
def spec_SetRight.f (k : Nat) (l0 : List Int) : Option (Bool) := if (l0.length : Int) > 400 then (some false) else (spec_SetRight.l0 k l0 1)
theorem spec_SetRight.mono_l : ∀ k, (∀ y0 y1, LeO (spec_SetRight.l0 k y0 y1) (spec_SetRight.l0 (k + 1) y0 y1))
  | 0 => fun _ _ r h => by simp [spec_SetRight.l0] at h
  | k + 1 => by
    have ih0 := spec_SetRight.mono_l k
    · intro y0 y1
      unfold spec_SetRight.l0
      repeat' first
      | (with_reducible exact ih0 _ _)
      | (with_reducible exact LeO.refl _)
      | (with_reducible exact LeO.none _)
      | (with_reducible refine LeO.ite ?_ ?_)
      | (with_reducible refine LeO.bind ?_ (fun _ => ?_))
      | exact ih0 _ _
      | exact LeO.none _
      | refine LeO.ite ?_ ?_
      | refine LeO.bind ?_ (fun _ => ?_)
theorem spec_SetRight.mono : ∀ a0 k, LeO (spec_SetRight.f k a0) (spec_SetRight.f (k + 1) a0) := by
  intro a0 k
  have ih0 := spec_SetRight.mono_l k
  unfold spec_SetRight.f
  repeat' first
      | (with_reducible exact ih0 _ _)
      | (with_reducible exact LeO.refl _)
      | (with_reducible exact LeO.none _)
      | (with_reducible refine LeO.ite ?_ ?_)
      | (with_reducible refine LeO.bind ?_ (fun _ => ?_))
      | exact ih0 _ _
      | exact LeO.none _
      | refine LeO.ite ?_ ?_
      | refine LeO.bind ?_ (fun _ => ?_)
set_option maxHeartbeats 8000000 in
set_option maxRecDepth 100000 in
theorem spec_SetRight.calls (k : Nat) (A0 : Option Addr) (c0 : Nat) (l0 : List Int) (r : Bool) (w : World) (hr0 : Kd.C (Kd.int .i64) w A0 l0.length l0) (hc0 : l0.length ≤ c0) (h : spec_SetRight.f k l0 = some r) :
    Calls Try.prog 49 #[.slice A0 l0.length c0] w fun e w' => e = .returned (.bool r) ∧ Drawn0 w w' := by
  have HR0 := Aside0.mk hr0
  have HC0 := Aside0.mk hc0
  clear hr0 hc0
  have H : (if (l0.length : Int) > 400 then (some false) else (spec_SetRight.l0 k l0 1)) = some r := h
  clear h
  by_cases c2 : (l0.length : Int) > 400
  · rw [if_pos c2] at H
    have c2b0 : decide (400 < (l0.length : Int)) = true := decide_eq_true c2
    have c2b1 : decide (400 < l0.length) = true := decide_eq_true (by omega)
    clear c2
    obtain rfl := Option.some.inj H
    go_enter Try.func49, Try.ntmps49
    go_wp2
    repeat (go_quiet (fail); try go_wp2)
    go_ret
    exact ⟨by first | rfl | (simp; done) | (simp [*]; done), by repeat (first | exact Drawn0.refl _ | apply Drawn0.step)⟩
  · rw [if_neg c2] at H
    have c2b0 : decide (400 < (l0.length : Int)) = false := decide_eq_false c2
    have c2b1 : decide (400 < l0.length) = false := decide_eq_false (by omega)
    clear c2
    have H' := Aside0.mk H
    clear H
    go_enter Try.func49, Try.ntmps49
    go_wp2
    repeat (go_quiet (fail); try go_wp2)
    go_loopg [3] k (fun kq v3 w' => ∃ (x3_1 : Int), v3 = .int .i64 x3_1 ∧ Aside0 (spec_SetRight.l0 kq l0 x3_1 = some r) ∧ Aside0 (kq ≤ k) ∧ Drawn0 w w')
    case atStart => exact ⟨(1), (by first | rfl | (simp; done) | (simp [*]; done)), H', ⟨Nat.le_refl _⟩, by repeat (first | exact Drawn0.refl _ | apply Drawn0.step)⟩
    case round =>
      clear H'
      try clear c2
      try clear c2b0
      try clear c2b1
      try clear p2
      obtain ⟨x3_1, rfl, HA, HK1, ⟨m1, rfl⟩⟩ := hrel
      cases gk with
      | zero => exact absurd HA.out (by simp [spec_SetRight.l0])
      | succ k1 =>
        have H := HA.out
        clear HA
        simp only [spec_SetRight.l0] at H
        by_cases c3 : x3_1 < (l0.length : Int)
        · rw [if_pos c3] at H
          have c3b0 : decide (x3_1 < (l0.length : Int)) = true := decide_eq_true c3
          clear c3
          obtain ⟨ji4, hji4⟩ : ∃ j_ : Int, (wrap64 (x3_1 - 1)) = j_ := ⟨_, rfl⟩
          replace H : (if 0 ≤ (ji4) then (if (ji4) < (l0.length : Int) then (if 0 ≤ x3_1 then (if (rd l0 (ji4)) ≥ (rd l0 x3_1) then (some false) else (spec_SetRight.l0 k1 l0 (wrap64 (x3_1 + 1)))) else (none)) else (none)) else (none)) = some r := by first | (rw [hji4] at H; exact H) | (simp only [hji4] at H ⊢; exact H)
          have hji4w : (IntKind.i64.wrap (x3_1 - 1)) = ji4 := (i64_w _).trans hji4
          by_cases c5 : 0 ≤ (ji4)
          · rw [if_pos c5] at H
            have c5b0 : decide (0 ≤ (ji4)) = true := decide_eq_true c5
            clear c5
            by_cases c6 : (ji4) < (l0.length : Int)
            · rw [if_pos c6] at H
              have c6b0 : decide ((ji4) < (l0.length : Int)) = true := decide_eq_true c6
              clear c6
              by_cases c7 : 0 ≤ x3_1
              · rw [if_pos c7] at H
                have c7b0 : decide (0 ≤ x3_1) = true := decide_eq_true c7
                clear c7
                by_cases c8 : (rd l0 (ji4)) ≥ (rd l0 x3_1)
                · rw [if_pos c8] at H
                  have c8b0 : decide ((rd l0 x3_1) ≤ (rd l0 (ji4))) = true := decide_eq_true c8
                  clear c8
                  obtain rfl := Option.some.inj H
                  have p315 : 0 ≤ ((ji4) : Int) := of_decide_eq_true (by first | (with_reducible assumption) | assumption)
                  have q315 : (ji4) < (l0.length : Int) := of_decide_eq_true (by first | (with_reducible assumption) | assumption)
                  obtain ⟨ad315, e315, hx315_0⟩ := Kd.at_int HR0.out (ji4) p315 q315
                  cases e315
                  replace p315 := eq_true p315
                  replace q315 := eq_true q315
                  have p316 : 0 ≤ (x3_1 : Int) := of_decide_eq_true (by first | (with_reducible assumption) | assumption)
                  have q316 : x3_1 < (l0.length : Int) := of_decide_eq_true (by first | (with_reducible assumption) | assumption)
                  obtain ⟨ad316, e316, hx316_0⟩ := Kd.at_int HR0.out x3_1 p316 q316
                  obtain rfl : ad315 = ad316 := (by injection e316)
                  replace p316 := eq_true p316
                  replace q316 := eq_true q316
                  go_wp2
                  repeat (go_quiet (fail); try go_wp2)
                  go_ret
                  exact ⟨by first | rfl | (simp; done) | (simp only [← hji4] <;> (first | rfl | simp)) | (simp [*]; done), by repeat (first | exact Drawn0.refl _ | apply Drawn0.step)⟩
                · rw [if_neg c8] at H
                  have c8b0 : decide ((rd l0 x3_1) ≤ (rd l0 (ji4))) = false := decide_eq_false c8
                  clear c8
                  have H' := Aside0.mk H
                  clear H
                  have p315 : 0 ≤ ((ji4) : Int) := of_decide_eq_true (by first | (with_reducible assumption) | assumption)
                  have q315 : (ji4) < (l0.length : Int) := of_decide_eq_true (by first | (with_reducible assumption) | assumption)
                  obtain ⟨ad315, e315, hx315_0⟩ := Kd.at_int HR0.out (ji4) p315 q315
                  cases e315
                  replace p315 := eq_true p315
                  replace q315 := eq_true q315
                  have p316 : 0 ≤ (x3_1 : Int) := of_decide_eq_true (by first | (with_reducible assumption) | assumption)
                  have q316 : x3_1 < (l0.length : Int) := of_decide_eq_true (by first | (with_reducible assumption) | assumption)
                  obtain ⟨ad316, e316, hx316_0⟩ := Kd.at_int HR0.out x3_1 p316 q316
                  obtain rfl : ad315 = ad316 := (by injection e316)
                  replace p316 := eq_true p316
                  replace q316 := eq_true q316
                  go_wp2
                  repeat (go_quiet (fail); try go_wp2)
                  go_roundg k1
                  case measure => have := HK1.out; omega
                  case rel => exact ⟨(wrap64 (x3_1 + 1)), (by first | rfl | (simp; done) | (simp [*]; done)), H', ⟨by have := HK1.out; omega⟩, by repeat (first | exact Drawn0.refl _ | apply Drawn0.step)⟩
              · rw [if_neg c7] at H
                exact absurd H (by simp)
            · rw [if_neg c6] at H
              exact absurd H (by simp)
          · rw [if_neg c5] at H
            exact absurd H (by simp)
        · rw [if_neg c3] at H
          have c3b0 : decide (x3_1 < (l0.length : Int)) = false := decide_eq_false c3
          clear c3
          obtain rfl := Option.some.inj H
          go_wp2
          repeat (go_quiet (fail); try go_wp2)
          go_ret
          exact ⟨by first | rfl | (simp; done) | (simp [*]; done), by repeat (first | exact Drawn0.refl _ | apply Drawn0.step)⟩

/-! ### spec_l02Has: function 86 -/
def spec_l02Has.l0 : Nat → List Int → Int → Int → Option (Bool)
  | 0, _, _, _ => none
  | k + 1, x0, x1, x5 => if x5 < (x0.length : Int) then (if 0 ≤ x5 then (if (rd x0 x5) = x1 then (some true) else (spec_l02Has.l0 k x0 x1 (wrap64 (x5 + 1)))) else (none)) else (some false)
def spec_l02Has.f (k : Nat) (l0 : List Int) (a1 : Int) : Option (Bool) := spec_l02Has.l0 k l0 a1 0
theorem spec_l02Has.mono_l : ∀ k, (∀ y0 y1 y2, LeO (spec_l02Has.l0 k y0 y1 y2) (spec_l02Has.l0 (k + 1) y0 y1 y2))
  | 0 => fun _ _ _ r h => by simp [spec_l02Has.l0] at h
  | k + 1 => by
    have ih0 := spec_l02Has.mono_l k
    · intro y0 y1 y2
      unfold spec_l02Has.l0
      repeat' first
      | (with_reducible exact ih0 _ _ _)
      | (with_reducible exact LeO.refl _)
      | (with_reducible exact LeO.none _)
      | (with_reducible refine LeO.ite ?_ ?_)
      | (with_reducible refine LeO.bind ?_ (fun _ => ?_))
      | exact ih0 _ _ _
      | exact LeO.none _
      | refine LeO.ite ?_ ?_
      | refine LeO.bind ?_ (fun _ => ?_)
theorem spec_l02Has.mono : ∀ a0 a1 k, LeO (spec_l02Has.f k a0 a1) (spec_l02Has.f (k + 1) a0 a1) := by
  intro a0 a1 k
  have ih0 := spec_l02Has.mono_l k
  unfold spec_l02Has.f
  repeat' first
      | (with_reducible exact ih0 _ _ _)
      | (with_reducible exact LeO.refl _)
      | (with_reducible exact LeO.none _)
      | (with_reducible refine LeO.ite ?_ ?_)
      | (with_reducible refine LeO.bind ?_ (fun _ => ?_))
      | exact ih0 _ _ _
      | exact LeO.none _
      | refine LeO.ite ?_ ?_
      | refine LeO.bind ?_ (fun _ => ?_)
set_option maxHeartbeats 8000000 in
set_option maxRecDepth 100000 in
theorem spec_l02Has.calls (k : Nat) (A0 : Option Addr) (c0 : Nat) (l0 : List Int) (a1 : Int) (r : Bool) (w : World) (hr0 : Kd.C (Kd.int .i64) w A0 l0.length l0) (hc0 : l0.length ≤ c0) (h : spec_l02Has.f k l0 a1 = some r) :
    Calls Try.prog 86 #[.slice A0 l0.length c0, .int .i64 a1] w fun e w' => e = .returned (.bool r) ∧ Drawn0 w w' := by
  have HR0 := Aside0.mk hr0
  have HC0 := Aside0.mk hc0
  clear hr0 hc0
  have H : (spec_l02Has.l0 k l0 a1 0) = some r := h
  clear h
  have H' := Aside0.mk H
  clear H
  go_enter Try.func86, Try.ntmps86
  go_wp2
  go_loopg [5] k (fun kq v5 w' => ∃ (x5_1 : Int), v5 = .int .i64 x5_1 ∧ Aside0 (spec_l02Has.l0 kq l0 a1 x5_1 = some r) ∧ Aside0 (kq ≤ k) ∧ Drawn0 w w')
  case atStart => exact ⟨(0), (by first | rfl | (simp; done) | (simp [*]; done)), H', ⟨Nat.le_refl _⟩, by repeat (first | exact Drawn0.refl _ | apply Drawn0.step)⟩
  case round =>
    clear H'
    try clear p2
    obtain ⟨x5_1, rfl, HA, HK1, ⟨m1, rfl⟩⟩ := hrel
    cases gk with
    | zero => exact absurd HA.out (by simp [spec_l02Has.l0])
    | succ k1 =>
      have H := HA.out
      clear HA
      simp only [spec_l02Has.l0] at H
      by_cases c3 : x5_1 < (l0.length : Int)
      · rw [if_pos c3] at H
        have c3b0 : decide (x5_1 < (l0.length : Int)) = true := decide_eq_true c3
        clear c3
        by_cases c4 : 0 ≤ x5_1
        · rw [if_pos c4] at H
          have c4b0 : decide (0 ≤ x5_1) = true := decide_eq_true c4
          clear c4
          by_cases c5 : (rd l0 x5_1) = a1
          · rw [if_pos c5] at H
            have c5b0 : ((rd l0 x5_1) == a1) = true := beq_iff_eq.mpr c5
            have c5b1 : ((rd l0 x5_1) != a1) = false := bne_eq_false_iff_eq.mpr c5
            clear c5
            obtain rfl := Option.some.inj H
            have p317 : 0 ≤ (x5_1 : Int) := of_decide_eq_true (by first | (with_reducible assumption) | assumption)
            have q317 : x5_1 < (l0.length : Int) := of_decide_eq_true (by first | (with_reducible assumption) | assumption)
            obtain ⟨ad317, e317, hx317_0⟩ := Kd.at_int HR0.out x5_1 p317 q317
            cases e317
            replace p317 := eq_true p317
            replace q317 := eq_true q317
            go_wp2
            go_ret
            exact ⟨by first | rfl | (simp; done) | (simp [*]; done), by repeat (first | exact Drawn0.refl _ | apply Drawn0.step)⟩
          · rw [if_neg c5] at H
            have c5b0 : ((rd l0 x5_1) == a1) = false := beq_eq_false_iff_ne.mpr c5
            have c5b1 : ((rd l0 x5_1) != a1) = true := bne_iff_ne.mpr c5
            have H' := Aside0.mk H
            clear H
            have p317 : 0 ≤ (x5_1 : Int) := of_decide_eq_true (by first | (with_reducible assumption) | assumption)
            have q317 : x5_1 < (l0.length : Int) := of_decide_eq_true (by first | (with_reducible assumption) | assumption)
            obtain ⟨ad317, e317, hx317_0⟩ := Kd.at_int HR0.out x5_1 p317 q317
            cases e317
            replace p317 := eq_true p317
            replace q317 := eq_true q317
            go_wp2
            go_roundg k1
            case measure => have := HK1.out; omega
            case rel => exact ⟨(wrap64 (x5_1 + 1)), (by first | rfl | (simp; done) | (simp [*]; done)), H', ⟨by have := HK1.out; omega⟩, by repeat (first | exact Drawn0.refl _ | apply Drawn0.step)⟩
        · rw [if_neg c4] at H
          exact absurd H (by simp)
      · rw [if_neg c3] at H
        have c3b0 : decide (x5_1 < (l0.length : Int)) = false := decide_eq_false c3
        clear c3
        obtain rfl := Option.some.inj H
        go_wp2
        go_ret
        exact ⟨by first | rfl | (simp; done) | (simp [*]; done), by repeat (first | exact Drawn0.refl _ | apply Drawn0.step)⟩

end Go.Proofs.Ytkgjikjnciihmaa.PFnChance
