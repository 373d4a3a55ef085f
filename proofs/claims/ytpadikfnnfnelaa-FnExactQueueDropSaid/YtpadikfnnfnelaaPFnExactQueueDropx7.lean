/- Laid by this session's program pp.py (over the kit's printer) out of the translation: Go functions as Lean functions, and that the calls come to them. -/
import Derived.Test.YtpadikfnnfnelaaPFnExactQueueDropx0
import Derived.Test.YtpadikfnnfnelaaPFnExactQueueDropx1
import Derived.Test.YtpadikfnnfnelaaPFnExactQueueDropx2
import Derived.Test.YtpadikfnnfnelaaPFnExactQueueDropx5
import Derived.Test.YtpadikfnnfnelaaPFnExactQueueDropx6
namespace Go.Proofs.Ytpadikfnnfnelaa.PFnExactQueueDrop
open Go.RowKit Go.Proofs.YtpadikfnnfnelaaW.PrintWords Go.Proofs.YtpadikfnnfnelaaW.PrintLast Go.Proofs.YtpadikfnnfnelaaW.PrintMore
attribute [local go_sem] max2_int min2_int max_two min_two max_three min_three max_four min_four   -- for this text's walks alone
set_option linter.unusedVariables false
set_option linter.unusedSimpArgs false

/-! ### impl_queueCode: function 87 -/
def impl_queueCode.f (k : Nat) (l0 : List (S62)) : Option (Int) := (impl_Due_111.f l0).bind fun t206 => (if t206 = true then (some 2) else ((impl_QueueRight.f k l0).bind fun t207 => (if t207 = true then (some 0) else (some 1))))
theorem impl_queueCode.mono : ∀ a0 k, LeO (impl_queueCode.f k a0) (impl_queueCode.f (k + 1) a0) := by
  intro a0 k
  unfold impl_queueCode.f
  repeat' first
      | (with_reducible exact impl_QueueRight.mono _ _)
      | (with_reducible exact LeO.refl _)
      | (with_reducible exact LeO.none _)
      | (with_reducible refine LeO.ite ?_ ?_)
      | (with_reducible refine LeO.bind ?_ (fun _ => ?_))
      | exact impl_QueueRight.mono _ _
      | exact LeO.none _
      | refine LeO.ite ?_ ?_
      | refine LeO.bind ?_ (fun _ => ?_)
set_option maxHeartbeats 8000000 in
set_option maxRecDepth 100000 in
theorem impl_queueCode.calls (k : Nat) (A0 : Option Addr) (c0 : Nat) (l0 : List (S62)) (r : Int) (w : World) (hr0 : Kd.C k62 w A0 l0.length l0) (hc0 : l0.length ≤ c0) (h : impl_queueCode.f k l0 = some r) :
    Calls Try.prog 87 #[.slice A0 l0.length c0] w fun e w' => e = .returned (.int .i64 r) ∧ Below w.heap.size w w' := by
  have HR0 := Aside0.mk hr0
  have HC0 := Aside0.mk hc0
  clear hr0 hc0
  have HB := Aside0.mk (Below.refl w.heap.size w)
  have H : ((impl_Due_111.f l0).bind fun t206 => (if t206 = true then (some 2) else ((impl_QueueRight.f k l0).bind fun t207 => (if t207 = true then (some 0) else (some 1))))) = some r := h
  clear h
  replace H := Option.bind_eq_some_iff.mp H
  obtain ⟨t206, A20, H⟩ := H
  replace H : (if t206 = true then (some 2) else ((impl_QueueRight.f k l0).bind fun t207 => (if t207 = true then (some 0) else (some 1)))) = some r := H
  have A2 := Aside0.mk A20
  clear A20
  by_cases c3 : t206 = true
  · subst c3
    have H1 : (some 2) = some r := by rw [if_pos rfl] at H; exact H
    clear H
    have H := H1
    clear H1
    obtain rfl := Option.some.inj H
    go_enter Try.func87, Try.ntmps87
    go_wp2_with (first | ((with_reducible refine gate_callee (f := 111) rfl ?_); refine goesL_ (some 5) rfl rfl Try.func111 (by kernel_rfl) rfl #[.slice A0 l0.length c0] rfl (by (try simp only [List.map_toArray, List.map_cons, List.map_nil]); first | done | rfl | (simp only [List.length_drop, List.length_take]; rfl)) ?_; (with_reducible refine (impl_Due_111.calls _ _ l0 true _ ?side1 ?side2 A2.out).mono ?_); (case side1 => repeat (first | exact HR0.out | (with_reducible refine Kd.C_alloc ?_ _) | (with_reducible refine Kd.C_drewN ?_ _) | (with_reducible refine Kd.C_drew ?_))); (case side2 => exact HC0.out); rintro e w' ⟨rfl, ⟨nd, rfl⟩⟩; refine ⟨_, rfl, ?_⟩))
    go_ret
    exact ⟨by first | rfl | (simp [errW_none, errW_some] <;> rfl) | (simp [*, errW_none, errW_some] <;> rfl), by repeat (first | (with_reducible first | exact HB.out | apply below_alloc | apply pw_below_drewN | apply below_drew1) | exact HB.out)⟩
  · replace c3 := Bool.eq_false_iff.mpr c3
    subst c3
    have H1 : ((impl_QueueRight.f k l0).bind fun t207 => (if t207 = true then (some 0) else (some 1))) = some r := by rw [if_neg (show ¬ (false = true) by decide)] at H; exact H
    clear H
    have H := H1
    clear H1
    replace H := Option.bind_eq_some_iff.mp H
    obtain ⟨t207, A40, H⟩ := H
    replace H : (if t207 = true then (some 0) else (some 1)) = some r := H
    have A4 := Aside0.mk A40
    clear A40
    by_cases c5 : t207 = true
    · subst c5
      have H1 : (some 0) = some r := by rw [if_pos rfl] at H; exact H
      clear H
      have H := H1
      clear H1
      obtain rfl := Option.some.inj H
      go_enter Try.func87, Try.ntmps87
      go_wp2_with (first | ((with_reducible refine gate_callee (f := 111) rfl ?_); refine goesL_ (some 5) rfl rfl Try.func111 (by kernel_rfl) rfl #[.slice A0 l0.length c0] rfl (by (try simp only [List.map_toArray, List.map_cons, List.map_nil]); first | done | rfl | (simp only [List.length_drop, List.length_take]; rfl)) ?_; (with_reducible refine (impl_Due_111.calls _ _ l0 false _ ?side1 ?side2 A2.out).mono ?_); (case side1 => repeat (first | exact HR0.out | (with_reducible refine Kd.C_alloc ?_ _) | (with_reducible refine Kd.C_drewN ?_ _) | (with_reducible refine Kd.C_drew ?_))); (case side2 => exact HC0.out); rintro e w' ⟨rfl, ⟨nd, rfl⟩⟩; refine ⟨_, rfl, ?_⟩) | ((with_reducible refine gate_callee (f := 39) rfl ?_); refine goesL_ (some 8) rfl rfl Try.func39 (by kernel_rfl) rfl #[.slice A0 l0.length c0] rfl (by (try simp only [List.map_toArray, List.map_cons, List.map_nil]); first | done | rfl | (simp only [List.length_drop, List.length_take]; rfl)) ?_; (with_reducible refine (impl_QueueRight.calls k _ _ l0 true _ ?side1 ?side2 A4.out).mono ?_); (case side1 => repeat (first | exact HR0.out | (with_reducible refine Kd.C_alloc ?_ _) | (with_reducible refine Kd.C_drewN ?_ _) | (with_reducible refine Kd.C_drew ?_))); (case side2 => exact HC0.out); rintro e w6 ⟨rfl, hb⟩; refine ⟨_, rfl, ?_⟩; have n0_ := Aside0.mk (below_step (by repeat (first | (with_reducible first | exact HB.out | apply below_alloc | apply pw_below_drewN | apply below_drew1) | exact HB.out)) hb); clear HB; have HB := n0_; clear n0_; (try clear hb); (try clear hb2); (try clear hk); (try clear hi)))
      go_ret
      exact ⟨by first | rfl | (simp [errW_none, errW_some] <;> rfl) | (simp [*, errW_none, errW_some] <;> rfl), by repeat (first | (with_reducible first | exact HB.out | apply below_alloc | apply pw_below_drewN | apply below_drew1) | exact HB.out)⟩
    · replace c5 := Bool.eq_false_iff.mpr c5
      subst c5
      have H1 : (some 1) = some r := by rw [if_neg (show ¬ (false = true) by decide)] at H; exact H
      clear H
      have H := H1
      clear H1
      obtain rfl := Option.some.inj H
      go_enter Try.func87, Try.ntmps87
      go_wp2_with (first | ((with_reducible refine gate_callee (f := 111) rfl ?_); refine goesL_ (some 5) rfl rfl Try.func111 (by kernel_rfl) rfl #[.slice A0 l0.length c0] rfl (by (try simp only [List.map_toArray, List.map_cons, List.map_nil]); first | done | rfl | (simp only [List.length_drop, List.length_take]; rfl)) ?_; (with_reducible refine (impl_Due_111.calls _ _ l0 false _ ?side1 ?side2 A2.out).mono ?_); (case side1 => repeat (first | exact HR0.out | (with_reducible refine Kd.C_alloc ?_ _) | (with_reducible refine Kd.C_drewN ?_ _) | (with_reducible refine Kd.C_drew ?_))); (case side2 => exact HC0.out); rintro e w' ⟨rfl, ⟨nd, rfl⟩⟩; refine ⟨_, rfl, ?_⟩) | ((with_reducible refine gate_callee (f := 39) rfl ?_); refine goesL_ (some 8) rfl rfl Try.func39 (by kernel_rfl) rfl #[.slice A0 l0.length c0] rfl (by (try simp only [List.map_toArray, List.map_cons, List.map_nil]); first | done | rfl | (simp only [List.length_drop, List.length_take]; rfl)) ?_; (with_reducible refine (impl_QueueRight.calls k _ _ l0 false _ ?side1 ?side2 A4.out).mono ?_); (case side1 => repeat (first | exact HR0.out | (with_reducible refine Kd.C_alloc ?_ _) | (with_reducible refine Kd.C_drewN ?_ _) | (with_reducible refine Kd.C_drew ?_))); (case side2 => exact HC0.out); rintro e w7 ⟨rfl, hb⟩; refine ⟨_, rfl, ?_⟩; have n0_ := Aside0.mk (below_step (by repeat (first | (with_reducible first | exact HB.out | apply below_alloc | apply pw_below_drewN | apply below_drew1) | exact HB.out)) hb); clear HB; have HB := n0_; clear n0_; (try clear hb); (try clear hb2); (try clear hk); (try clear hi)))
      go_ret
      exact ⟨by first | rfl | (simp [errW_none, errW_some] <;> rfl) | (simp [*, errW_none, errW_some] <;> rfl), by repeat (first | (with_reducible first | exact HB.out | apply below_alloc | apply pw_below_drewN | apply below_drew1) | exact HB.out)⟩

/-! ### impl_Due_88: function 88, by a template -/
def impl_Due_88.f (l0 : List (S62)) : Option (List (S62)) := if l0.length < 3518437208883 then some l0 else none
set_option maxHeartbeats 8000000 in
set_option maxRecDepth 100000 in
theorem impl_Due_88.calls (A0 : Option Addr) (c0 : Nat) (l0 : List (S62)) (r : List (S62)) (w : World) (hr0 : Kd.C k62 w A0 l0.length l0) (hc0 : l0.length ≤ c0) (h : impl_Due_88.f l0 = some r) :
    Calls Try.prog 88 #[.slice A0 l0.length c0] w fun e w' => ∃ v0_ : Value, e = .returned (v0_) ∧ Kd.R k62 62 w' w.heap.size (fun _ => True) v0_ r ∧ Below w.heap.size w w' := by
  unfold impl_Due_88.f at h
  by_cases hl : l0.length < 3518437208883
  · rw [if_pos hl] at h
    obtain rfl := Option.some.inj h
    clear h
    have HR0 := Aside0.mk hr0
    have HL := Aside0.mk hl
    have qn : ∀ (w : World) (a : Option Addr) (n c n' c' : Nat), (binOp .eql 57 (.slice a n c) (.slice none n' c')).run Try.prog w = .ok (.bool a.isNone) w := fun w a n c n' c' => Go.Lib.run_eql_slice_nil w _ _ a n c n' c' Try.underlying57
    cases A0 with
    | none =>
      have h0 : l0 = [] := by
        rcases Nat.eq_zero_or_pos l0.length with h | h
        · exact List.eq_nil_of_length_eq_zero h
        · obtain ⟨_, e, _⟩ := hr0.2.2 h
          cases e
      subst h0
      clear hr0 hc0 hl
      go_enter Try.func88, Try.ntmps88
      go_wp2
      go_ret
      exact ⟨_, rfl, Kd.R_nil _ _ _ _ _, Below.refl _ _⟩
    | some ad =>
      clear hr0 hc0 hl
      go_enter Try.func88, Try.ntmps88
      go_wp2_with (first | ((with_reducible refine gate_dst (N := 5) rfl ?_); refine Kd.R_lit k62 _ 62 ?hg (N := 5) ?hd (xs := ([] : List (S62))) (inner := []) (ok := fun _ => True) (okp := fun _ => True) ?hr ?hp (fun _ hk => hk) trivial (Below.refl _ _) (Nat.le_refl _) (by simp) ?_; (case hd => rfl); (case hg => rfl); (case hr => first | (go_simp; done) | (go_simp; rfl)); (case hp => exact (Reps.none _ _)); intro v5 w5 ho5 hb5 hg_ hnew_; clear hg_ hnew_; have HO5 := Aside0.mk ho5; have HB5 := Aside0.mk hb5; clear ho5 hb5) | ((with_reducible refine gate_builtin (b := .append) (xs := #[.tmp 5, .tmp 6]) rfl ?_); at_builtin; refine Kd.R_append_rows k62 (w0 := w) w.heap.size rfl (.tmp 5) (.tmp 6) 57 62 (.agg #[(.int .i64 0), (.int .i64 0), (.int .i64 0), (.string ⟨#[]⟩)]) 40 rfl Try.underlying57 info62 rfl (by decide) (by omega) v5 [] l0 _ _ _ (fun _ => True) (fun _ => False) rfl rfl ?aO ?aR (fun _ _ h => h) (fun _ h => h.elim) ?aF ?aB ?aS ?aL ?_; (case aR => exact Kd.C_below HR0.out HB5.out); (case aB => exact HB5.out); (case aF => exact (fun _ _ => trivial)); (case aO => exact HO5.out); (case aS => exact HB5.out.size); (case aL => have := HL.out; simp only [List.length_nil]; omega); intro v7 w7 ho hb hg hat; have HO7 := Aside0.mk ho; have HB7 := Aside0.mk hb; clear ho hb hg hat; obtain ⟨Ao_, co_, eo_⟩ := Kd.R_slice HO7.out; subst eo_))
      go_ret
      exact ⟨_, rfl, HO7.out, HB7.out⟩
  · rw [if_neg hl] at h; exact absurd h (by simp)

/-! ### impl_QueueDrop: function 48, by a template -/
/-- Is it of the node? -/
def impl_QueueDrop.p (n : Int) (x : S62) : Bool := x.f2 == n
def impl_QueueDrop.f (k : Nat) (l0 : List S62) (a1 : Int) : Option (List S62 × Int × Int × Int × ByteArray × Int) := (impl_queueCode.f k l0).bind fun t => if t = 0 then (if l0.length ≤ 140737488355328 then (impl_Due_88.f l0).bind fun l => some (l.filter (fun x => !impl_QueueDrop.p a1 x), 0, 0, 0, ⟨#[]⟩, 0) else none) else some ([], 0, 0, 0, ⟨#[]⟩, t)
set_option maxHeartbeats 8000000 in
set_option maxRecDepth 100000 in
theorem impl_QueueDrop.asks (x : S62) (n : Int) (gb : Nat) (w : World) (hb : w.heap[gb]? = some (.cells #[.int .i64 n] 2 (0, 0))) :
    Calls Try.prog 93 #[.agg #[.int .i64 x.f0, .int .i64 x.f1, .int .i64 x.f2, .string x.f3], .pointer (some ⟨gb, 0, none⟩)] w fun e w' => e = .returned (.bool (impl_QueueDrop.p n x)) ∧ Below w.heap.size w w' := by
  have hue_ := Try.underlying62
  have BK := Aside0.mk hb
  clear hb
  unfold impl_QueueDrop.p
  go_enter Try.func93, Try.ntmps93
  go_wp2_with ((with_reducible refine gate_dst (N := 2) rfl ?_); refine box_event ?hg (N := 2) ?hd (cs := #[.int .i64 x.f0, .int .i64 x.f1, .int .i64 x.f2, .string x.f3]) (t := 62) ?hr ?_; (case hd => rfl); (case hg => rfl); (case hr => first | (go_simp; done) | (go_simp; rfl)); intro gc hg w8 hbox hb; have HB := Aside0.mk hb; have h0 : w8.cell? ⟨gb, 0, none⟩ = some (.int .i64 n) := (blk_cell (blk_below BK.out hb) 0).trans rfl; have h2 : w8.cell? ⟨gc, 2, none⟩ = some (.int .i64 x.f2) := (blk_cell hbox 2).trans rfl; clear hb hbox hg)
  go_ret
  exact ⟨rfl, by repeat (first | (with_reducible first | exact HB.out | apply below_alloc | apply pw_below_drewN | apply below_drew1) | exact HB.out)⟩
set_option maxHeartbeats 8000000 in
set_option maxRecDepth 100000 in
theorem impl_QueueDrop.index (A0 : Option Addr) (c0 : Nat) (l0 : List S62) (n : Int) (gb : Nat) (w : World) (hr0 : Kd.C k62 w A0 l0.length l0) (hb : w.heap[gb]? = some (.cells #[.int .i64 n] 2 (0, 0))) (hl : l0.length ≤ 140737488355328) :
    Calls Try.prog 112 #[.slice A0 l0.length c0, .func (.func 93) #[] #[.pointer (some ⟨gb, 0, none⟩)]] w fun e w' => ∃ i : Int, e = .returned (.int .i64 i) ∧ ((i = -1 ∧ ∀ m, m < l0.length → impl_QueueDrop.p n (l0.getD m z62) = false) ∨ ∃ j : Nat, i = (j : Int) ∧ j < l0.length ∧ impl_QueueDrop.p n (l0.getD j z62) = true ∧ ∀ m, m < j → impl_QueueDrop.p n (l0.getD m z62) = false) ∧ Below w.heap.size w w' := by
  have HR0 := Aside0.mk hr0
  have BK := Aside0.mk hb
  have HL := Aside0.mk hl
  clear hr0 hb hl
  go_enter Try.func112, Try.ntmps112
  go_wp2
  go_loopg [5, 8] l0.length (fun gg s5 s8 wr => ∃ kk : Nat, s8 = .int .i64 (kk : Int) ∧ Aside0 (kk ≤ l0.length) ∧ Aside0 (l0.length - kk ≤ gg) ∧ Aside0 (∀ m, m < kk → impl_QueueDrop.p n (l0.getD m z62) = false) ∧ Aside0 (Below w.heap.size w wr))
  case atStart => exact ⟨0, rfl, ⟨Nat.zero_le _⟩, ⟨by omega⟩, ⟨fun m hm => absurd hm (Nat.not_lt_zero _)⟩, ⟨Below.refl _ _⟩⟩
  case round =>
    obtain ⟨kk, rfl, K1, G1, E1, HB⟩ := hrel
    by_cases hlt : kk < l0.length
    · have hltz : (kk : Int) < (l0.length : Int) := by omega
      obtain ⟨ad, e1, hx0, hx1, hx2, hx3⟩ := at_T62 (Kd.C_below HR0.out HB.out) (kk : Int) (by omega) hltz
      cases e1
      rw [Int.toNat_natCast] at hx0 hx1 hx2 hx3
      have hd : rd_T62 l0 (kk : Int) = l0.getD kk z62 := by simp [rd_T62]
      rw [hd] at hx0 hx1 hx2 hx3
      have BK2 := Aside0.mk (blk_below BK.out HB.out)
      have LT := Aside0.mk hlt
      clear hd hlt
      generalize hxx : l0.getD kk z62 = x at *
      have XX := Aside0.mk hxx
      clear hxx
      obtain ⟨b, hb⟩ : ∃ b, impl_QueueDrop.p n x = b := ⟨_, rfl⟩
      have PB := Aside0.mk hb
      clear hb
      have hask := impl_QueueDrop.asks x n gb wr BK2.out
      rw [PB.out] at hask
      have HA := Aside0.mk hask
      clear hask
      cases b with
      | true =>
        go_wp2_with (go_at_call 93; refine HA.out.mono ?_; rintro e w' ⟨rfl, hb⟩; have HB2 := Aside0.mk (below_step HB.out hb); clear hb)
        go_ret
        exact ⟨(kk : Int), rfl, .inr ⟨kk, rfl, LT.out, by rw [XX.out]; exact PB.out, E1.out⟩, HB2.out⟩
      | false =>
        go_wp2_with (go_at_call 93; refine HA.out.mono ?_; rintro e w' ⟨rfl, hb⟩; have HB2 := Aside0.mk (below_step HB.out hb); clear hb)
        go_roundg (l0.length - (kk + 1))
        case measure => have := G1.out; have := LT.out; omega
        case rel =>
          refine ⟨kk + 1, ?_, ⟨by have := LT.out; omega⟩, ⟨Nat.le_refl _⟩, ⟨fun m hm => ?_⟩, HB2⟩
          · have := LT.out; have := HL.out
            first | rfl | (congr 1; omega) | (congr 1; unfold wrap64; omega) | go_num
          · rcases Nat.lt_or_ge m kk with h | h
            · exact E1.out m h
            · rw [show m = kk by omega, XX.out]; exact PB.out
    · have hltz : ¬ (kk : Int) < (l0.length : Int) := by omega
      have hk : kk = l0.length := by have := K1.out; omega
      subst hk
      go_wp2
      go_ret
      exact ⟨-1, rfl, .inl ⟨rfl, E1.out⟩, HB.out⟩
set_option maxHeartbeats 8000000 in
set_option maxRecDepth 100000 in
theorem impl_QueueDrop.deletes (v : Value) (l0 : List S62) (n : Int) (gb base : Nat) (w : World) (hR : Kd.R k62 62 w base (fun _ => True) v l0) (hb : w.heap[gb]? = some (.cells #[.int .i64 n] 2 (0, 0))) (hgb : gb < base) (hbase : base ≤ w.heap.size) (hl : l0.length ≤ 140737488355328) :
    Calls Try.prog 92 #[v, .func (.func 93) #[] #[.pointer (some ⟨gb, 0, none⟩)]] w fun e w' => ∃ v' : Value, e = .returned v' ∧ Kd.R k62 62 w' base (fun _ => True) v' (l0.filter fun x => !impl_QueueDrop.p n x) ∧ Below base w w' := by
  obtain ⟨A, c, rfl⟩ := Kd.R_slice hR
  have HR := Aside0.mk hR
  have BK := Aside0.mk hb
  have HL := Aside0.mk hl
  have HG := Aside0.mk hgb
  have HS := Aside0.mk hbase
  have HX := Aside0.mk (impl_QueueDrop.index A c l0 n gb w (Kd.R_reads' hR).2.2 hb hl)
  clear hR hb hl hgb hbase
  go_enter Try.func92, Try.ntmps92
  go_upto_region 2 with (go_at_call 112; refine HX.out.mono ?_; rintro e w1 ⟨i, rfl, hi, hb⟩; have HI := Aside0.mk hi; have HB := Aside0.mk hb; clear hi hb)
  have hi := HI.out
  clear HI HX
  rcases hi with ⟨rfl, hall⟩ | ⟨j0, rfl, hj0, hp0, hlow⟩
  · have HA := Aside0.mk hall
    clear hall
    go_wp2
    go_ret
    refine ⟨_, rfl, ?_, HB.out.mono HS.out⟩
    have e : (l0.filter fun x => !impl_QueueDrop.p n x) = l0 := by
      rw [List.filter_eq_self]
      intro x hx
      obtain ⟨m, hm, rfl⟩ := List.getElem_of_mem hx
      have := HA.out m hm
      simp only [List.getD, List.getElem?_eq_getElem hm, Option.getD_some] at this
      rw [this]; rfl
    rw [e]
    exact Kd.R_below HR.out HB.out
  · have hne : ((j0 : Int) == -1) = false := beq_eq_false_iff_ne.2 (by omega)
    have P0 := Aside0.mk hp0
    have LW := Aside0.mk hlow
    have LJ := Aside0.mk hj0
    clear hp0 hlow hj0
    obtain ⟨g, cp, eo, gb5, gl5, cl5, HG5⟩ := Kd.R_form HR.out (by have := LJ.out; omega)
    injection eo with ea en ec
    subst ea
    subst ec
    clear en gl5 HG5
    have GB := Aside0.mk gb5
    clear gb5
    go_wp2
    go_loopg [5, 6, 7] l0.length (fun gg s5 s6 s7 wr => ∃ (i j : Nat) (ys : List S62), s5 = .int .i64 (i : Int) ∧ s6 = .int .i64 (j : Int) ∧ Aside0 (i < j ∧ j ≤ l0.length ∧ l0.length - j ≤ gg) ∧ Aside0 (ys.length = l0.length ∧ ys.take i = (l0.take j).filter (fun x => !impl_QueueDrop.p n x) ∧ ys.drop j = l0.drop j) ∧ Aside0 (Kd.R k62 62 wr base (fun _ => True) (.slice (some ⟨g, 0, none⟩) l0.length c) ys) ∧ Aside0 (wr.heap[gb]? = some (.cells #[.int .i64 n] 2 (0, 0))) ∧ Aside0 (Below base w wr) ∧ Aside0 (base ≤ wr.heap.size))
    case atStart =>
      refine ⟨j0, j0 + 1, l0, rfl, ?_, ⟨by omega, by have := LJ.out; omega, by omega⟩, ⟨rfl, ?_, rfl⟩, ⟨Kd.R_below HR.out HB.out⟩, ⟨blk_below BK.out HB.out⟩, ⟨HB.out.mono HS.out⟩, ⟨Nat.le_trans HS.out HB.out.size⟩⟩
      · have := LJ.out; have := HL.out
        first | rfl | (congr 1; omega) | (congr 1; unfold wrap64; omega) | go_num
      · have hj := LJ.out
        have hp := P0.out
        rw [List.take_add_one, List.filter_append]
        have e1 : (l0.take j0).filter (fun x => !impl_QueueDrop.p n x) = l0.take j0 := by
          rw [List.filter_eq_self]
          intro x hx
          obtain ⟨m, hm, rfl⟩ := List.getElem_of_mem hx
          have hm2 : m < j0 := by rw [List.length_take] at hm; omega
          have := LW.out m hm2
          simp only [List.getD, List.getElem?_eq_getElem (show m < l0.length by omega), Option.getD_some] at this
          rw [List.getElem_take, this]; rfl
        simp only [List.getD, List.getElem?_eq_getElem hj, Option.getD_some] at hp
        rw [e1, List.getElem?_eq_getElem hj]
        simp [hp]
    case round =>
      obtain ⟨i, j, ys, rfl, rfl, IJ, YS, HR2, BK2, HB2, HS2⟩ := hrel
      clear HR BK HB HS LJ P0 LW
      have HRS := Aside0.mk HS2.out
      by_cases hlt : j < l0.length
      · have hltz : (j : Int) < (l0.length : Int) := by omega
        obtain ⟨ce, hcl, hM, hcc, hfr⟩ := Kd.R_elem HR2.out z62 (j : Int) (by omega) hltz
        obtain rfl := k62_openM hM
        rw [Int.toNat_natCast] at hM hcc
        have hgl : g < wr.heap.size := by
          obtain ⟨g', cp', eo', _, gl', _⟩ := Kd.R_form HR2.out (by have := YS.out.1; omega)
          injection eo' with ea' _ _
          injection ea' with ea'
          injection ea' with ea'
          omega
        have GL := Aside0.mk hgl
        have JL := Aside0.mk hlt
        clear hcl hM hfr hgl hlt
        generalize hyx : ys.getD j z62 = x at *
        have YX := Aside0.mk hyx
        clear hyx
        have hx0 := hcc 0 _ rfl
        have hx1 := hcc 1 _ rfl
        have hx2 := hcc 2 _ rfl
        have hx3 := hcc 3 _ rfl
        simp only [show (k62).sz = 4 from rfl, Nat.add_zero] at hx0 hx1 hx2 hx3
        clear hcc
        go_upto_region 8 with ((with_reducible refine gate_dst (N := 7) rfl ?_); refine box_event ?hg (N := 7) ?hd (cs := #[.int .i64 0, .int .i64 0, .int .i64 0, .string ⟨#[]⟩]) (t := 62) ?hr ?_; (case hd => rfl); (case hg => rfl); (case hr => first | (go_simp; done) | (go_simp; rfl)); intro gc hgc w5 hbox hb; have R5 := Aside0.mk (Kd.R_below HR2.out hb); have B5 := Aside0.mk (HB2.out.trans (hb.mono HS2.out)); have K5 := Aside0.mk (blk_below BK2.out hb); have S5 := Aside0.mk (Nat.le_trans HS2.out hb.size); have BC := Aside0.mk hbox; have GC := Aside0.mk hgc; clear HR2 HB2 BK2 HS2 hb hgc hbox; have hc0 : w5.cell? ⟨gc, 0, none⟩ = some (.int .i64 0) := (blk_cell BC.out 0).trans rfl; have hc1 : w5.cell? ⟨gc, 1, none⟩ = some (.int .i64 0) := (blk_cell BC.out 1).trans rfl; have hc2 : w5.cell? ⟨gc, 2, none⟩ = some (.int .i64 0) := (blk_cell BC.out 2).trans rfl; have hc3 : w5.cell? ⟨gc, 3, none⟩ = some (.string ⟨#[]⟩) := (blk_cell BC.out 3).trans rfl; have hfc0 := blk_frozen BC.out 0; have hfc1 := blk_frozen BC.out 1; have hfc2 := blk_frozen BC.out 2; have hfc3 := blk_frozen BC.out 3)
        have gne : gc ≠ g := by have := GC.out; have := GL.out; omega
        have gnb : gc ≠ gb := by have h1 := GC.out; have h2 := blk_lt K5.out; have h3 := HG.out; have h4 := S5.out; have h5 := HRS.out; omega
        clear hx0 hx1 hx2 hx3 hc0 hc1 hc2 hc3 hfc0 hfc1 hfc2 hfc3
        have BC9 := Aside0.mk (blk_put (cs' := #[.int .i64 x.f0, .int .i64 x.f1, .int .i64 x.f2, .string x.f3]) (blk_put (cs' := #[.int .i64 x.f0, .int .i64 x.f1, .int .i64 x.f2, .string ⟨#[]⟩]) (blk_put (cs' := #[.int .i64 x.f0, .int .i64 x.f1, .int .i64 0, .string ⟨#[]⟩]) (blk_put (cs' := #[.int .i64 x.f0, .int .i64 0, .int .i64 0, .string ⟨#[]⟩]) BC.out 0 (.int .i64 x.f0) rfl) 1 (.int .i64 x.f1) rfl) 2 (.int .i64 x.f2) rfl) 3 (.string x.f3) rfl)
        have W9 : ∃ w9, w9 = ((((w5.setCell { block := gc, off := 0 } (Value.int IntKind.i64 x.f0)).setCell { block := gc, off := 1 } (Value.int IntKind.i64 x.f1)).setCell { block := gc, off := 2 } (Value.int IntKind.i64 x.f2)).setCell { block := gc, off := 3 } (Value.string x.f3)) := ⟨_, rfl⟩
        have far9 : ∀ k, k ≠ gc → ((((w5.setCell { block := gc, off := 0 } (Value.int IntKind.i64 x.f0)).setCell { block := gc, off := 1 } (Value.int IntKind.i64 x.f1)).setCell { block := gc, off := 2 } (Value.int IntKind.i64 x.f2)).setCell { block := gc, off := 3 } (Value.string x.f3)).heap[k]? = w5.heap[k]? := fun k hk => by
          rw [Below.heap_setCell _ _ _ k hk, Below.heap_setCell _ _ _ k hk, Below.heap_setCell _ _ _ k hk, Below.heap_setCell _ _ _ k hk]
        have K9 := Aside0.mk ((far9 gb gnb.symm).trans K5.out)
        have gcb : base ≤ gc := by have := GC.out; have := HRS.out; omega
        have B9 := Aside0.mk ((((B5.out.setCell (p := ⟨gc, 0, none⟩) gcb (.int .i64 x.f0)).setCell (p := ⟨gc, 1, none⟩) gcb (.int .i64 x.f1)).setCell (p := ⟨gc, 2, none⟩) gcb (.int .i64 x.f2)).setCell (p := ⟨gc, 3, none⟩) gcb (.string x.f3))
        have R9 := Aside0.mk (Kd.R_mono (ok' := fun _ => True) (Kd.R_move (Kd.R_tight rfl R5.out) (fun k hk => by cases hk; exact far9 g gne.symm)) (fun _ _ => trivial))
        have S9 := Aside0.mk (show base ≤ ((((w5.setCell { block := gc, off := 0 } (Value.int IntKind.i64 x.f0)).setCell { block := gc, off := 1 } (Value.int IntKind.i64 x.f1)).setCell { block := gc, off := 2 } (Value.int IntKind.i64 x.f2)).setCell { block := gc, off := 3 } (Value.string x.f3)).heap.size by simpa [World.setCell] using S5.out)
        clear W9 far9 gcb BC K5 B5 R5 S5 gnb
        generalize ((((w5.setCell { block := gc, off := 0 } (Value.int IntKind.i64 x.f0)).setCell { block := gc, off := 1 } (Value.int IntKind.i64 x.f1)).setCell { block := gc, off := 2 } (Value.int IntKind.i64 x.f2)).setCell { block := gc, off := 3 } (Value.string x.f3)) = w9 at *
        have hd0 : w9.cell? ⟨gc, 0, none⟩ = some (.int .i64 x.f0) := (blk_cell BC9.out 0).trans rfl
        have hd1 : w9.cell? ⟨gc, 1, none⟩ = some (.int .i64 x.f1) := (blk_cell BC9.out 1).trans rfl
        have hd2 : w9.cell? ⟨gc, 2, none⟩ = some (.int .i64 x.f2) := (blk_cell BC9.out 2).trans rfl
        have hd3 : w9.cell? ⟨gc, 3, none⟩ = some (.string x.f3) := (blk_cell BC9.out 3).trans rfl
        obtain ⟨b, hb⟩ : ∃ b, impl_QueueDrop.p n x = b := ⟨_, rfl⟩
        have PB := Aside0.mk hb
        clear hb
        have hask := impl_QueueDrop.asks x n gb w9 K9.out
        rw [PB.out] at hask
        have HA := Aside0.mk hask
        clear hask
        cases b with
        | true =>
          go_wp2_with (go_at_call 93; refine HA.out.mono ?_; rintro e w' ⟨rfl, hb⟩; have R10 := Aside0.mk (Kd.R_below R9.out hb); have K10 := Aside0.mk (blk_below K9.out hb); have B10 := Aside0.mk (B9.out.trans (hb.mono S9.out)); have S10 := Aside0.mk (Nat.le_trans S9.out hb.size); clear hb)
          go_roundg (l0.length - (j + 1))
          case measure => have := IJ.out; have := JL.out; omega
          case rel =>
            refine ⟨i, j + 1, ys, rfl, ?_, ⟨by have := IJ.out; omega, by have := JL.out; omega, Nat.le_refl _⟩, ⟨YS.out.1, ?_, ?_⟩, R10, K10, B10, S10⟩
            · have := JL.out; have := HL.out
              first | rfl | (congr 1; omega) | (congr 1; unfold wrap64; omega) | go_num
            · have h1 := YS.out
              have h2 := Go.Proofs.YtpadikfnnfnelaaH.skip_step (fun x => !impl_QueueDrop.p n x) z62 l0 ys i j JL.out h1.1 h1.2.1 h1.2.2 (by rw [YX.out, PB.out]; rfl)
              exact h2.1
            · have h1 := YS.out
              have h2 := Go.Proofs.YtpadikfnnfnelaaH.skip_step (fun x => !impl_QueueDrop.p n x) z62 l0 ys i j JL.out h1.1 h1.2.1 h1.2.2 (by rw [YX.out, PB.out]; rfl)
              exact h2.2
        | false =>
          go_upto_region 9 with (go_at_call 93; refine HA.out.mono ?_; rintro e w10 ⟨rfl, hb⟩; have R10 := Aside0.mk (Kd.R_below R9.out hb); have K10 := Aside0.mk (blk_below K9.out hb); have BC10 := Aside0.mk (blk_below BC9.out hb); have B10 := Aside0.mk (B9.out.trans (hb.mono S9.out)); have S10 := Aside0.mk (Nat.le_trans S9.out hb.size); clear hb)
          clear hd0 hd1 hd2 hd3 R9 K9 BC9 B9 S9 HA
          have hd0 : w10.cell? ⟨gc, 0, none⟩ = some (.int .i64 x.f0) := (blk_cell BC10.out 0).trans rfl
          have hd1 : w10.cell? ⟨gc, 1, none⟩ = some (.int .i64 x.f1) := (blk_cell BC10.out 1).trans rfl
          have hd2 : w10.cell? ⟨gc, 2, none⟩ = some (.int .i64 x.f2) := (blk_cell BC10.out 2).trans rfl
          have hd3 : w10.cell? ⟨gc, 3, none⟩ = some (.string x.f3) := (blk_cell BC10.out 3).trans rfl
          have hil : (i : Int) < (l0.length : Int) := by have := IJ.out; have := JL.out; omega
          obtain ⟨ce, hcl, hM, hcc, hfr⟩ := Kd.R_elem R10.out z62 (i : Int) (by omega) hil
          obtain rfl := k62_openM hM
          have HP := Kd.R_seg R10.out (i : Int) (by omega) hil (seg := [.int .i64 x.f0, .int .i64 x.f1, .int .i64 x.f2, .string x.f3]) (j := 0) hcl hcc (show 4 ≤ 4 from by decide) (x' := x) (k62_mkM _ _ _ x) (fun _ hk => hk)
          rw [Int.toNat_natCast] at hcc hfr HP
          have hy0 := hcc 0 _ rfl
          have hy1 := hcc 1 _ rfl
          have hy2 := hcc 2 _ rfl
          have hy3 := hcc 3 _ rfl
          have hf0 := hfr 0
          have hf1 := hfr 1
          have hf2 := hfr 2
          have hf3 := hfr 3
          simp only [show (k62).sz = 4 from rfl, Nat.add_zero] at hy0 hy1 hy2 hy3 hf0 hf1 hf2 hf3 HP
          have H1 := Aside0.mk HP.1
          clear hcl hM hcc hfr HP
          have K11 := Aside0.mk (show gb ≠ g from by have h1 := GB.out; have h2 := HG.out; omega)
          generalize (ys.getD i z62).f0 = q0 at *
          generalize (ys.getD i z62).f1 = q1 at *
          generalize (ys.getD i z62).f2 = q2 at *
          generalize (ys.getD i z62).f3 = q3 at *
          have B11 := Aside0.mk ((((B10.out.setCell (p := ⟨g, i * 4, none⟩) GB.out (.int .i64 x.f0)).setCell (p := ⟨g, i * 4 + 1, none⟩) GB.out (.int .i64 x.f1)).setCell (p := ⟨g, i * 4 + 2, none⟩) GB.out (.int .i64 x.f2)).setCell (p := ⟨g, i * 4 + 3, none⟩) GB.out (.string x.f3))
          have K12 := Aside0.mk (blk_far (blk_far (blk_far (blk_far K10.out (p := ⟨g, i * 4, none⟩) K11.out (.int .i64 x.f0)) (p := ⟨g, i * 4 + 1, none⟩) K11.out (.int .i64 x.f1)) (p := ⟨g, i * 4 + 2, none⟩) K11.out (.int .i64 x.f2)) (p := ⟨g, i * 4 + 3, none⟩) K11.out (.string x.f3))
          go_wp2
          go_roundg (l0.length - (j + 1))
          case measure => have := IJ.out; have := JL.out; omega
          case rel =>
            have h1 := YS.out
            have h2 := Go.Proofs.YtpadikfnnfnelaaH.keep_step (fun x => !impl_QueueDrop.p n x) z62 l0 ys i j IJ.out.1 JL.out h1.1 h1.2.1 h1.2.2 (by rw [YX.out, PB.out]; rfl)
            rw [YX.out] at h2
            refine ⟨i + 1, j + 1, ys.set i x, ?_, ?_, ⟨by have := IJ.out; omega, by have := JL.out; omega, Nat.le_refl _⟩, ⟨h2⟩, ⟨H1.out⟩, K12, B11, ⟨by simpa [World.setCell] using S10.out⟩⟩
            · have := JL.out; have := HL.out; have := IJ.out
              first | rfl | (congr 1; omega) | (congr 1; unfold wrap64; omega) | go_num
            · have := JL.out; have := HL.out
              first | rfl | (congr 1; omega) | (congr 1; unfold wrap64; omega) | go_num
      · have hltz : ¬ (j : Int) < (l0.length : Int) := by omega
        have hj : j = l0.length := by have := IJ.out; omega
        have hij := IJ.out.1
        subst hj
        have hil : (i : Int) < (l0.length : Int) := by omega
        have hile : (i : Int) ≤ (l0.length : Int) := by omega
        have hcap : l0.length ≤ c := (Kd.R_reads' HR2.out).2.1
        have hic : (i : Int) ≤ (c : Int) := by omega
        have hilc : (l0.length : Int) ≤ (c : Int) := by omega
        obtain ⟨i0, hi, hz0, hz1, hz2⟩ := info_parts info62
        have hcell : ∀ q, q < (l0.length - i) * 4 → (wr.cell? ⟨g, i * 4 + q, none⟩).isSome = true ∧ wr.frozen? ⟨g, i * 4 + q, none⟩ = false := by
          intro q hq
          obtain ⟨ce, hcl, hM, hcc, hfr⟩ := Kd.R_elem HR2.out z62 ((i + q / 4 : Nat) : Int) (by omega) (by omega)
          rw [Int.toNat_natCast] at hcc hfr
          have e : (i + q / 4) * 4 + q % 4 = i * 4 + q := by omega
          have hlt : q % 4 < ce.length := by rw [hcl]; exact Nat.mod_lt _ (by decide)
          have h1 := hcc (q % 4) _ (List.getElem?_eq_getElem hlt)
          have h2 := hfr (q % 4)
          simp only [show (k62).sz = 4 from rfl, e] at h1 h2
          exact ⟨by rw [h1]; rfl, h2⟩
        obtain ⟨vs, hcl⟩ := Go.Proofs.YtpadikfnnfnelaaH.run_clear_row (P := Try.prog) wr 57 62 i0 _ Try.underlying57 hi hz0 (by decide) g (i * 4) (l0.length - i) (c - i) (fun q hq => (hcell q hq).1) (fun q hq => (hcell q hq).2)
        have RC := Aside0.mk (Go.Proofs.YtpadikfnnfnelaaH.R_clear HR2.out i (by omega) (i * 4) vs (Nat.le_refl _))
        have YS2 := YS
        clear hcell hi hz0 hz1 hz2 hcap
        go_wp2
        go_ret
        refine ⟨_, rfl, ?_, Go.Proofs.YtpadikfnnfnelaaH.below_setCells GB.out vs _ HB2.out⟩
        have h1 := YS.out.2.1
        rw [List.take_of_length_le (Nat.le_refl _)] at h1
        have h2 := RC.out
        rw [h1] at h2
        exact h2
set_option maxHeartbeats 8000000 in
set_option maxRecDepth 100000 in
theorem impl_QueueDrop.calls (k : Nat) (A0 : Option Addr) (c0 : Nat) (l0 : List S62) (a1 : Int) (r1 : List (S62)) (r2 : Int) (r3 : Int) (r4 : Int) (r5 : ByteArray) (r6 : Int) (w : World) (hr0 : Kd.C k62 w A0 l0.length l0) (hc0 : l0.length ≤ c0) (h : impl_QueueDrop.f k l0 a1 = some (r1, r2, r3, r4, r5, r6)) :
    Calls Try.prog 48 #[.slice A0 l0.length c0, .int .i64 a1] w fun e w' => ∃ v0_ : Value, e = .returned (.agg #[v0_, .int .i64 r2, .int .i64 r3, .int .i64 r4, .string r5, .int .i64 r6]) ∧ Kd.R k62 62 w' w.heap.size (fun _ => True) v0_ r1 ∧ Below w.heap.size w w' := by
  have huo_ := Try.underlying64
  have HR0 := Aside0.mk hr0
  have HC0 := Aside0.mk hc0
  clear hr0 hc0
  unfold impl_QueueDrop.f at h
  replace h := Option.bind_eq_some_iff.mp h
  obtain ⟨t, ht, h⟩ := h
  have AT := Aside0.mk ht
  clear ht
  by_cases ct : t = 0
  · rw [if_pos ct] at h
    by_cases hl : l0.length ≤ 140737488355328
    · rw [if_pos hl] at h
      replace h := Option.bind_eq_some_iff.mp h
      obtain ⟨l, hl2, h⟩ := h
      have hll : l = l0 := by
        unfold impl_Due_88.f at hl2
        split at hl2
        · cases hl2; rfl
        · cases hl2
      have HL := Aside0.mk (show l.length ≤ 140737488355328 by rw [hll]; exact hl)
      have AL := Aside0.mk hl2
      clear hl hl2 hll
      subst ct
      simp only [Option.some.injEq, Prod.mk.injEq] at h
      obtain ⟨rfl, rfl, rfl, rfl, rfl, rfl⟩ := h
      go_enter Try.func48, Try.ntmps48
      go_wp2_with (first | ((with_reducible refine gate_dst (N := 3) rfl ?_); refine box_event ?hg (N := 3) ?hd (cs := #[.int .i64 a1]) (t := 2) ?hr ?_; (case hd => rfl); (case hg => rfl); (case hr => first | (go_simp; done) | (go_simp; rfl)); intro gb hg w1 hbox hb; have HB := Aside0.mk hb; have BX := Aside0.mk hbox; clear hb hbox hg) | ((with_reducible refine gate_dst (N := 4) rfl ?_); refine box_event ?hg (N := 4) ?hd (cs := #[.slice none 0 0, .int .i64 0, .int .i64 0, .int .i64 0, .string ⟨#[]⟩, .int .i64 0]) (t := 64) ?hr ?_; (case hd => rfl); (case hg => rfl); (case hr => first | (go_simp; done) | (go_simp; rfl)); intro gr hg w2 hbox hb; have GR := Aside0.mk (show w.heap.size ≤ gr by rw [hg]; exact below_size HB.out); have HB2 := Aside0.mk (below_step HB.out hb); have BX2 := Aside0.mk (blk_below BX.out hb); have BK := Aside0.mk hbox; clear HB BX hb hbox hg; have HB := HB2; have BX := BX2; clear HB2 BX2) | (go_at_call 87; (with_reducible refine (impl_queueCode.calls k A0 c0 l0 0 _ (Kd.C_below HR0.out HB.out) HC0.out AT.out).mono ?_); rintro e w3 ⟨rfl, hb⟩; have HB2 := Aside0.mk (below_step HB.out hb); have BX2 := Aside0.mk (blk_below BX.out hb); have BK2 := Aside0.mk (blk_below BK.out hb); clear HB BX BK hb; have HB := HB2; have BX := BX2; have BK := BK2; clear HB2 BX2 BK2; have hcz0 : w3.cell? ⟨gr, 0, none⟩ = some (.slice none 0 0) := (blk_cell BK.out 0).trans rfl; have hcz1 : w3.cell? ⟨gr, 1, none⟩ = some (.int .i64 0) := (blk_cell BK.out 1).trans rfl; have hcz2 : w3.cell? ⟨gr, 2, none⟩ = some (.int .i64 0) := (blk_cell BK.out 2).trans rfl; have hcz3 : w3.cell? ⟨gr, 3, none⟩ = some (.int .i64 0) := (blk_cell BK.out 3).trans rfl; have hcz4 : w3.cell? ⟨gr, 4, none⟩ = some (.string ⟨#[]⟩) := (blk_cell BK.out 4).trans rfl; have hcz5 : w3.cell? ⟨gr, 5, none⟩ = some (.int .i64 0) := (blk_cell BK.out 5).trans rfl; have hfz0 := blk_frozen BK.out 0; have hfz1 := blk_frozen BK.out 1; have hfz2 := blk_frozen BK.out 2; have hfz3 := blk_frozen BK.out 3; have hfz4 := blk_frozen BK.out 4; have hfz5 := blk_frozen BK.out 5) | (go_at_call 88; (with_reducible refine (impl_Due_88.calls A0 c0 l0 l _ (Kd.C_below HR0.out HB.out) HC0.out AL.out).mono ?_); rintro e w4 ⟨v0, rfl, ho, hb⟩; have RV := Aside0.mk ho; have HB4 := Aside0.mk (below_step HB.out hb); have BX4 := Aside0.mk (blk_below BX.out hb); have BK4 := Aside0.mk (blk_below BK.out hb); have BS := Aside0.mk hb.size; have GBL := Aside0.mk (blk_lt BX.out); have GRL := Aside0.mk (blk_lt BK.out); have W3 := Aside0.mk (below_size HB.out); clear HB BX BK ho hb hcz0 hcz1 hcz2 hcz3 hcz4 hcz5 hfz0 hfz1 hfz2 hfz3 hfz4 hfz5) | (go_at_call 92; refine (impl_QueueDrop.deletes v0 l a1 gb w3.heap.size w4 RV.out BX4.out GBL.out BS.out HL.out).mono ?_; rintro e w5 ⟨v1, rfl, ho, hb⟩; obtain ⟨Av, cv, rfl⟩ := Kd.R_slice ho; have RD := Aside0.mk ho; have HB5 := Aside0.mk (HB4.out.trans (hb.mono W3.out)); have BK5 := Aside0.mk ((hb.block gr GRL.out).trans BK4.out); clear ho hb RV BX4 BK4; have hcz0 : w5.cell? ⟨gr, 0, none⟩ = some (.slice none 0 0) := (blk_cell BK5.out 0).trans rfl; have hcz1 : w5.cell? ⟨gr, 1, none⟩ = some (.int .i64 0) := (blk_cell BK5.out 1).trans rfl; have hcz2 : w5.cell? ⟨gr, 2, none⟩ = some (.int .i64 0) := (blk_cell BK5.out 2).trans rfl; have hcz3 : w5.cell? ⟨gr, 3, none⟩ = some (.int .i64 0) := (blk_cell BK5.out 3).trans rfl; have hcz4 : w5.cell? ⟨gr, 4, none⟩ = some (.string ⟨#[]⟩) := (blk_cell BK5.out 4).trans rfl; have hcz5 : w5.cell? ⟨gr, 5, none⟩ = some (.int .i64 0) := (blk_cell BK5.out 5).trans rfl; have hfz0 := blk_frozen BK5.out 0; have hfz1 := blk_frozen BK5.out 1; have hfz2 := blk_frozen BK5.out 2; have hfz3 := blk_frozen BK5.out 3; have hfz4 := blk_frozen BK5.out 4; have hfz5 := blk_frozen BK5.out 5))
      refine bodyPost_ret (results_cell_row rfl _ _ gr 64 #[.slice Av (l.filter (fun x => !impl_QueueDrop.p a1 x)).length cv, .int .i64 0, .int .i64 0, .int .i64 0, .string ⟨#[]⟩, .int .i64 0] (0, 0) _ rfl (by refine blk_put (cs := #[.slice Av (l.filter (fun x => !impl_QueueDrop.p a1 x)).length cv, .int .i64 0, .int .i64 0, .int .i64 0, .string ⟨#[]⟩, .int .i64 0]) ?_ 5 _ rfl; refine blk_put (cs := #[.slice Av (l.filter (fun x => !impl_QueueDrop.p a1 x)).length cv, .int .i64 0, .int .i64 0, .int .i64 0, .string ⟨#[]⟩, .int .i64 0]) ?_ 4 _ rfl; refine blk_put (cs := #[.slice Av (l.filter (fun x => !impl_QueueDrop.p a1 x)).length cv, .int .i64 0, .int .i64 0, .int .i64 0, .string ⟨#[]⟩, .int .i64 0]) ?_ 3 _ rfl; refine blk_put (cs := #[.slice Av (l.filter (fun x => !impl_QueueDrop.p a1 x)).length cv, .int .i64 0, .int .i64 0, .int .i64 0, .string ⟨#[]⟩, .int .i64 0]) ?_ 2 _ rfl; refine blk_put (cs := #[.slice Av (l.filter (fun x => !impl_QueueDrop.p a1 x)).length cv, .int .i64 0, .int .i64 0, .int .i64 0, .string ⟨#[]⟩, .int .i64 0]) ?_ 1 _ rfl; refine blk_put (cs := #[.slice none 0 0, .int .i64 0, .int .i64 0, .int .i64 0, .string ⟨#[]⟩, .int .i64 0]) ?_ 0 _ rfl; exact BK5.out) Try.underlying64 rfl (by kernel_rfl)) rfl ?_
      have g3 : ∀ k, some k = (Value.slice Av (l.filter (fun x => !impl_QueueDrop.p a1 x)).length cv).ownBlock → k ≠ gr := fun k hk e => by
        have h1 := Kd.R_base RD.out k hk.symm
        have h2 := GRL.out
        omega
      exact ⟨_, rfl, Kd.R_mono (Kd.R_far (p := ⟨gr, 5, none⟩) (Kd.R_far (p := ⟨gr, 4, none⟩) (Kd.R_far (p := ⟨gr, 3, none⟩) (Kd.R_far (p := ⟨gr, 2, none⟩) (Kd.R_far (p := ⟨gr, 1, none⟩) (Kd.R_far (p := ⟨gr, 0, none⟩) (Kd.R_tight rfl (Kd.R_lower RD.out W3.out)) g3 _) g3 _) g3 _) g3 _) g3 _) g3 _) (fun _ _ => trivial), below_set (below_set (below_set (below_set (below_set (below_set HB5.out GR.out) GR.out) GR.out) GR.out) GR.out) GR.out⟩
    · rw [if_neg hl] at h
      cases h
  · rw [if_neg ct] at h
    have ctb : (t != 0) = true := bne_iff_ne.mpr ct
    have ctb2 : (t == 0) = false := beq_eq_false_iff_ne.mpr ct
    simp only [Option.some.injEq, Prod.mk.injEq] at h
    obtain ⟨rfl, rfl, rfl, rfl, rfl, rfl⟩ := h
    clear ct
    go_enter Try.func48, Try.ntmps48
    go_wp2_with (first | ((with_reducible refine gate_dst (N := 3) rfl ?_); refine box_event ?hg (N := 3) ?hd (cs := #[.int .i64 a1]) (t := 2) ?hr ?_; (case hd => rfl); (case hg => rfl); (case hr => first | (go_simp; done) | (go_simp; rfl)); intro gb hg w1 hbox hb; have HB := Aside0.mk hb; have BX := Aside0.mk hbox; clear hb hbox hg) | ((with_reducible refine gate_dst (N := 4) rfl ?_); refine box_event ?hg (N := 4) ?hd (cs := #[.slice none 0 0, .int .i64 0, .int .i64 0, .int .i64 0, .string ⟨#[]⟩, .int .i64 0]) (t := 64) ?hr ?_; (case hd => rfl); (case hg => rfl); (case hr => first | (go_simp; done) | (go_simp; rfl)); intro gr hg w2 hbox hb; have GR := Aside0.mk (show w.heap.size ≤ gr by rw [hg]; exact below_size HB.out); have HB2 := Aside0.mk (below_step HB.out hb); have BX2 := Aside0.mk (blk_below BX.out hb); have BK := Aside0.mk hbox; clear HB BX hb hbox hg; have HB := HB2; have BX := BX2; clear HB2 BX2) | (go_at_call 87; (with_reducible refine (impl_queueCode.calls k A0 c0 l0 t _ (Kd.C_below HR0.out HB.out) HC0.out AT.out).mono ?_); rintro e w3 ⟨rfl, hb⟩; have HB2 := Aside0.mk (below_step HB.out hb); have BX2 := Aside0.mk (blk_below BX.out hb); have BK2 := Aside0.mk (blk_below BK.out hb); clear HB BX BK hb; have HB := HB2; have BX := BX2; have BK := BK2; clear HB2 BX2 BK2; have hcz0 : w3.cell? ⟨gr, 0, none⟩ = some (.slice none 0 0) := (blk_cell BK.out 0).trans rfl; have hcz1 : w3.cell? ⟨gr, 1, none⟩ = some (.int .i64 0) := (blk_cell BK.out 1).trans rfl; have hcz2 : w3.cell? ⟨gr, 2, none⟩ = some (.int .i64 0) := (blk_cell BK.out 2).trans rfl; have hcz3 : w3.cell? ⟨gr, 3, none⟩ = some (.int .i64 0) := (blk_cell BK.out 3).trans rfl; have hcz4 : w3.cell? ⟨gr, 4, none⟩ = some (.string ⟨#[]⟩) := (blk_cell BK.out 4).trans rfl; have hcz5 : w3.cell? ⟨gr, 5, none⟩ = some (.int .i64 0) := (blk_cell BK.out 5).trans rfl; have hfz0 := blk_frozen BK.out 0; have hfz1 := blk_frozen BK.out 1; have hfz2 := blk_frozen BK.out 2; have hfz3 := blk_frozen BK.out 3; have hfz4 := blk_frozen BK.out 4; have hfz5 := blk_frozen BK.out 5))
    refine bodyPost_ret (results_cell_row rfl _ _ gr 64 #[.slice none 0 0, .int .i64 0, .int .i64 0, .int .i64 0, .string ⟨#[]⟩, .int .i64 t] (0, 0) _ rfl (by refine blk_put (cs := #[.slice none 0 0, .int .i64 0, .int .i64 0, .int .i64 0, .string ⟨#[]⟩, .int .i64 0]) ?_ 5 _ rfl; refine blk_put (cs := #[.slice none 0 0, .int .i64 0, .int .i64 0, .int .i64 0, .string ⟨#[]⟩, .int .i64 0]) ?_ 4 _ rfl; refine blk_put (cs := #[.slice none 0 0, .int .i64 0, .int .i64 0, .int .i64 0, .string ⟨#[]⟩, .int .i64 0]) ?_ 3 _ rfl; refine blk_put (cs := #[.slice none 0 0, .int .i64 0, .int .i64 0, .int .i64 0, .string ⟨#[]⟩, .int .i64 0]) ?_ 2 _ rfl; refine blk_put (cs := #[.slice none 0 0, .int .i64 0, .int .i64 0, .int .i64 0, .string ⟨#[]⟩, .int .i64 0]) ?_ 1 _ rfl; refine blk_put (cs := #[.slice none 0 0, .int .i64 0, .int .i64 0, .int .i64 0, .string ⟨#[]⟩, .int .i64 0]) ?_ 0 _ rfl; exact BK.out) Try.underlying64 rfl (by kernel_rfl)) rfl ?_
    exact ⟨_, rfl, Kd.R_nil _ _ _ _ _, below_set (below_set (below_set (below_set (below_set (below_set HB.out GR.out) GR.out) GR.out) GR.out) GR.out) GR.out⟩
theorem impl_QueueDrop.mono : ∀ a0 a1 k, LeO (impl_QueueDrop.f k a0 a1) (impl_QueueDrop.f (k + 1) a0 a1) := by
  intro a0 a1 k
  unfold impl_QueueDrop.f
  repeat' first
      | (with_reducible exact impl_queueCode.mono _ _)
      | (with_reducible exact LeO.refl _)
      | (with_reducible exact LeO.none _)
      | (with_reducible refine LeO.ite ?_ ?_)
      | (with_reducible refine LeO.bind ?_ (fun _ => ?_))
      | exact LeO.refl _
      | exact LeO.none _
      | refine LeO.ite ?_ ?_
      | refine LeO.bind ?_ (fun _ => ?_)

/-! ### laws_FnExactQueueDrop: function 9 -/
def laws_FnExactQueueDrop.j0 : Nat → List (S71) → Int → Bool → List (S62) → Int → Int → Int → ByteArray → Int → List (S62) → Int → Int → Int → ByteArray → Int → Option (Bool)
  | 0, _, _, _, _, _, _, _, _, _, _, _, _, _, _, _ => none
  | k + 1, x0, x1, x46, x221000, x221001, x221002, x221003, x221004, x221005, x233000, x233001, x233002, x233003, x233004, x233005 => if x46 = true then (some false) else ((laws_markQueueOut.f k x233000 x233001 x233002 x233003 x233004 x233005 1).bind fun bt241 => ((laws_heldQueueOut.f k bt241.2 x233001 x233002 x233003 x233004 x233005 1).bind fun t243 => (if t243 < 0 then (some false) else (if t243 = bt241.1 then ((laws_toDueS.f k x0).bind fun t244 => ((impl_QueueDrop.f k t244 x1).bind fun bt247 => ((laws_eqQueueOut.f k bt247.1 bt247.2.1 bt247.2.2.1 bt247.2.2.2.1 bt247.2.2.2.2.1 bt247.2.2.2.2.2 x221000 x221001 x221002 x221003 x221004 x221005).bind fun t256 => (if t256 = true then ((laws_heldQueueOut.f k bt241.2 x233001 x233002 x233003 x233004 x233005 1).bind fun t257 => (if t257 < 0 then (some false) else (if t257 = bt241.1 then (some true) else (some false)))) else (some false))))) else (some false)))))
def laws_FnExactQueueDrop.f (k : Nat) (l0 : List (S71)) (a1 : Int) : Option (Bool) := (laws_szDueS.f k l0 1048576).bind fun t208 => (if t208 < 0 then (some true) else ((laws_toDueS.f k l0).bind fun t209 => ((spec_QueueDrop.f k t209 a1).bind fun bt212 => ((laws_toDueS.f k l0).bind fun t221 => ((impl_QueueDrop.f k t221 a1).bind fun bt224 => ((laws_eqQueueOut.f k bt224.1 bt224.2.1 bt224.2.2.1 bt224.2.2.2.1 bt224.2.2.2.2.1 bt224.2.2.2.2.2 bt212.1 bt212.2.1 bt212.2.2.1 bt212.2.2.2.1 bt212.2.2.2.2.1 bt212.2.2.2.2.2).bind fun t233 => (if t233 = true then ((laws_toDueS.f k l0).bind fun t234 => ((laws_eqDueS.f k t221 t234).bind fun t237 => (if t237 = true then ((laws_markDueS.f k t221 1).bind fun bt238 => (if bt238.1 < 0 then (laws_FnExactQueueDrop.j0 k l0 a1 true bt212.1 bt212.2.1 bt212.2.2.1 bt212.2.2.2.1 bt212.2.2.2.2.1 bt212.2.2.2.2.2 bt224.1 bt224.2.1 bt224.2.2.1 bt224.2.2.2.1 bt224.2.2.2.2.1 bt224.2.2.2.2.2) else ((laws_eqQueueOut.f k bt224.1 bt224.2.1 bt224.2.2.1 bt224.2.2.2.1 bt224.2.2.2.2.1 bt224.2.2.2.2.2 bt212.1 bt212.2.1 bt212.2.2.1 bt212.2.2.2.1 bt212.2.2.2.2.1 bt212.2.2.2.2.2).bind fun t240 => (laws_FnExactQueueDrop.j0 k l0 a1 (!t240) bt212.1 bt212.2.1 bt212.2.2.1 bt212.2.2.2.1 bt212.2.2.2.2.1 bt212.2.2.2.2.2 bt224.1 bt224.2.1 bt224.2.2.1 bt224.2.2.2.1 bt224.2.2.2.2.1 bt224.2.2.2.2.2)))) else (some false)))) else (some false))))))))
theorem laws_FnExactQueueDrop.mono_l : ∀ k, (∀ y0 y1 y2 y3 y4 y5 y6 y7 y8 y9 y10 y11 y12 y13 y14, LeO (laws_FnExactQueueDrop.j0 k y0 y1 y2 y3 y4 y5 y6 y7 y8 y9 y10 y11 y12 y13 y14) (laws_FnExactQueueDrop.j0 (k + 1) y0 y1 y2 y3 y4 y5 y6 y7 y8 y9 y10 y11 y12 y13 y14))
  | 0 => fun _ _ _ _ _ _ _ _ _ _ _ _ _ _ _ r h => by simp [laws_FnExactQueueDrop.j0] at h
  | k + 1 => by
    have ih0 := laws_FnExactQueueDrop.mono_l k
    · intro y0 y1 y2 y3 y4 y5 y6 y7 y8 y9 y10 y11 y12 y13 y14
      unfold laws_FnExactQueueDrop.j0
      repeat' first
      | (with_reducible exact ih0 _ _ _ _ _ _ _ _ _ _ _ _ _ _ _)
      | (with_reducible exact impl_QueueDrop.mono _ _ _)
      | (with_reducible exact laws_eqDueS.mono _ _ _)
      | (with_reducible exact laws_eqQueueOut.mono _ _ _ _ _ _ _ _ _ _ _ _ _)
      | (with_reducible exact laws_heldQueueOut.mono _ _ _ _ _ _ _ _)
      | (with_reducible exact laws_markDueS.mono _ _ _)
      | (with_reducible exact laws_markQueueOut.mono _ _ _ _ _ _ _ _)
      | (with_reducible exact laws_szDueS.mono _ _ _)
      | (with_reducible exact laws_toDueS.mono _ _)
      | (with_reducible exact spec_QueueDrop.mono _ _ _)
      | (with_reducible exact LeO.refl _)
      | (with_reducible exact LeO.none _)
      | (with_reducible refine LeO.ite ?_ ?_)
      | (with_reducible refine LeO.bind ?_ (fun _ => ?_))
      | exact ih0 _ _ _ _ _ _ _ _ _ _ _ _ _ _ _
      | exact impl_QueueDrop.mono _ _ _
      | exact laws_eqDueS.mono _ _ _
      | exact laws_eqQueueOut.mono _ _ _ _ _ _ _ _ _ _ _ _ _
      | exact laws_heldQueueOut.mono _ _ _ _ _ _ _ _
      | exact laws_markDueS.mono _ _ _
      | exact laws_markQueueOut.mono _ _ _ _ _ _ _ _
      | exact laws_szDueS.mono _ _ _
      | exact laws_toDueS.mono _ _
      | exact spec_QueueDrop.mono _ _ _
      | exact LeO.none _
      | refine LeO.ite ?_ ?_
      | refine LeO.bind ?_ (fun _ => ?_)
theorem laws_FnExactQueueDrop.mono : ∀ a0 a1 k, LeO (laws_FnExactQueueDrop.f k a0 a1) (laws_FnExactQueueDrop.f (k + 1) a0 a1) := by
  intro a0 a1 k
  have ih0 := laws_FnExactQueueDrop.mono_l k
  unfold laws_FnExactQueueDrop.f
  repeat' first
      | (with_reducible exact ih0 _ _ _ _ _ _ _ _ _ _ _ _ _ _ _)
      | (with_reducible exact impl_QueueDrop.mono _ _ _)
      | (with_reducible exact laws_eqDueS.mono _ _ _)
      | (with_reducible exact laws_eqQueueOut.mono _ _ _ _ _ _ _ _ _ _ _ _ _)
      | (with_reducible exact laws_heldQueueOut.mono _ _ _ _ _ _ _ _)
      | (with_reducible exact laws_markDueS.mono _ _ _)
      | (with_reducible exact laws_markQueueOut.mono _ _ _ _ _ _ _ _)
      | (with_reducible exact laws_szDueS.mono _ _ _)
      | (with_reducible exact laws_toDueS.mono _ _)
      | (with_reducible exact spec_QueueDrop.mono _ _ _)
      | (with_reducible exact LeO.refl _)
      | (with_reducible exact LeO.none _)
      | (with_reducible refine LeO.ite ?_ ?_)
      | (with_reducible refine LeO.bind ?_ (fun _ => ?_))
      | exact ih0 _ _ _ _ _ _ _ _ _ _ _ _ _ _ _
      | exact impl_QueueDrop.mono _ _ _
      | exact laws_eqDueS.mono _ _ _
      | exact laws_eqQueueOut.mono _ _ _ _ _ _ _ _ _ _ _ _ _
      | exact laws_heldQueueOut.mono _ _ _ _ _ _ _ _
      | exact laws_markDueS.mono _ _ _
      | exact laws_markQueueOut.mono _ _ _ _ _ _ _ _
      | exact laws_szDueS.mono _ _ _
      | exact laws_toDueS.mono _ _
      | exact spec_QueueDrop.mono _ _ _
      | exact LeO.none _
      | refine LeO.ite ?_ ?_
      | refine LeO.bind ?_ (fun _ => ?_)
set_option maxHeartbeats 8000000 in
set_option maxRecDepth 100000 in
theorem laws_FnExactQueueDrop.calls (k : Nat) (A0 : Option Addr) (c0 : Nat) (l0 : List (S71)) (a1 : Int) (r : Bool) (w : World) (hr0 : Kd.C k71 w A0 l0.length l0) (hc0 : l0.length ≤ c0) (h : laws_FnExactQueueDrop.f k l0 a1 = some r) (ht_ : r = true) :
    Calls Try.prog 9 #[.slice A0 l0.length c0, .int .i64 a1] w fun e w' => e = .returned (.bool r) ∧ Below w.heap.size w w' := by
  have HT_ := Aside0.mk ht_
  clear ht_
  have hu64 := Try.underlying64
  have HR0 := Aside0.mk hr0
  have HC0 := Aside0.mk hc0
  clear hr0 hc0
  have HB := Aside0.mk (Below.refl w.heap.size w)
  have H : ((laws_szDueS.f k l0 1048576).bind fun t208 => (if t208 < 0 then (some true) else ((laws_toDueS.f k l0).bind fun t209 => ((spec_QueueDrop.f k t209 a1).bind fun bt212 => ((laws_toDueS.f k l0).bind fun t221 => ((impl_QueueDrop.f k t221 a1).bind fun bt224 => ((laws_eqQueueOut.f k bt224.1 bt224.2.1 bt224.2.2.1 bt224.2.2.2.1 bt224.2.2.2.2.1 bt224.2.2.2.2.2 bt212.1 bt212.2.1 bt212.2.2.1 bt212.2.2.2.1 bt212.2.2.2.2.1 bt212.2.2.2.2.2).bind fun t233 => (if t233 = true then ((laws_toDueS.f k l0).bind fun t234 => ((laws_eqDueS.f k t221 t234).bind fun t237 => (if t237 = true then ((laws_markDueS.f k t221 1).bind fun bt238 => (if bt238.1 < 0 then (laws_FnExactQueueDrop.j0 k l0 a1 true bt212.1 bt212.2.1 bt212.2.2.1 bt212.2.2.2.1 bt212.2.2.2.2.1 bt212.2.2.2.2.2 bt224.1 bt224.2.1 bt224.2.2.1 bt224.2.2.2.1 bt224.2.2.2.2.1 bt224.2.2.2.2.2) else ((laws_eqQueueOut.f k bt224.1 bt224.2.1 bt224.2.2.1 bt224.2.2.2.1 bt224.2.2.2.2.1 bt224.2.2.2.2.2 bt212.1 bt212.2.1 bt212.2.2.1 bt212.2.2.2.1 bt212.2.2.2.2.1 bt212.2.2.2.2.2).bind fun t240 => (laws_FnExactQueueDrop.j0 k l0 a1 (!t240) bt212.1 bt212.2.1 bt212.2.2.1 bt212.2.2.2.1 bt212.2.2.2.2.1 bt212.2.2.2.2.2 bt224.1 bt224.2.1 bt224.2.2.1 bt224.2.2.2.1 bt224.2.2.2.2.1 bt224.2.2.2.2.2)))) else (some false)))) else (some false))))))))) = some r := h
  clear h
  replace H := Option.bind_eq_some_iff.mp H
  obtain ⟨t208, A30, H⟩ := H
  replace H : (if t208 < 0 then (some true) else ((laws_toDueS.f k l0).bind fun t209 => ((spec_QueueDrop.f k t209 a1).bind fun bt212 => ((laws_toDueS.f k l0).bind fun t221 => ((impl_QueueDrop.f k t221 a1).bind fun bt224 => ((laws_eqQueueOut.f k bt224.1 bt224.2.1 bt224.2.2.1 bt224.2.2.2.1 bt224.2.2.2.2.1 bt224.2.2.2.2.2 bt212.1 bt212.2.1 bt212.2.2.1 bt212.2.2.2.1 bt212.2.2.2.2.1 bt212.2.2.2.2.2).bind fun t233 => (if t233 = true then ((laws_toDueS.f k l0).bind fun t234 => ((laws_eqDueS.f k t221 t234).bind fun t237 => (if t237 = true then ((laws_markDueS.f k t221 1).bind fun bt238 => (if bt238.1 < 0 then (laws_FnExactQueueDrop.j0 k l0 a1 true bt212.1 bt212.2.1 bt212.2.2.1 bt212.2.2.2.1 bt212.2.2.2.2.1 bt212.2.2.2.2.2 bt224.1 bt224.2.1 bt224.2.2.1 bt224.2.2.2.1 bt224.2.2.2.2.1 bt224.2.2.2.2.2) else ((laws_eqQueueOut.f k bt224.1 bt224.2.1 bt224.2.2.1 bt224.2.2.2.1 bt224.2.2.2.2.1 bt224.2.2.2.2.2 bt212.1 bt212.2.1 bt212.2.2.1 bt212.2.2.2.1 bt212.2.2.2.2.1 bt212.2.2.2.2.2).bind fun t240 => (laws_FnExactQueueDrop.j0 k l0 a1 (!t240) bt212.1 bt212.2.1 bt212.2.2.1 bt212.2.2.2.1 bt212.2.2.2.2.1 bt212.2.2.2.2.2 bt224.1 bt224.2.1 bt224.2.2.1 bt224.2.2.2.1 bt224.2.2.2.2.1 bt224.2.2.2.2.2)))) else (some false)))) else (some false)))))))) = some r := H
  have A3 := Aside0.mk A30
  clear A30
  by_cases c4 : t208 < 0
  · rw [if_pos c4] at H
    have c4b0 : decide (t208 < 0) = true := decide_eq_true c4
    clear c4
    obtain rfl := Option.some.inj H
    go_enter Try.func9, Try.ntmps9
    go_wp2_with (first | ((with_reducible refine gate_callee (f := 36) rfl ?_); refine goesL_ (some 15) rfl rfl Try.func36 (by kernel_rfl) rfl #[.slice A0 l0.length c0, .int .i64 1048576] rfl (by (try simp only [List.map_toArray, List.map_cons, List.map_nil]); first | done | rfl | (simp only [List.length_drop, List.length_take]; rfl)) ?_; (with_reducible refine (laws_szDueS.calls k _ _ l0 1048576 t208 _ ?side1 ?side2 A3.out).mono ?_); (case side1 => repeat (first | exact HR0.out | (with_reducible refine Kd.C_alloc ?_ _) | (with_reducible refine Kd.C_drewN ?_ _) | (with_reducible refine Kd.C_drew ?_))); (case side2 => exact HC0.out); rintro e w5 ⟨rfl, hb⟩; refine ⟨_, rfl, ?_⟩; have n0_ := Aside0.mk (below_step (by repeat (first | (with_reducible first | exact HB.out | apply below_alloc | apply pw_below_drewN | apply below_drew1) | exact HB.out)) hb); clear HB; have HB := n0_; clear n0_; (try clear hb); (try clear hb2); (try clear hk); (try clear hi)))
    go_ret
    exact ⟨by first | rfl | (simp [errW_none, errW_some] <;> rfl) | (simp [*, errW_none, errW_some] <;> rfl), by repeat (first | (with_reducible first | exact HB.out | apply below_alloc | apply pw_below_drewN | apply below_drew1) | exact HB.out)⟩
  · rw [if_neg c4] at H
    have c4b0 : decide (t208 < 0) = false := decide_eq_false c4
    clear c4
    replace H := Option.bind_eq_some_iff.mp H
    obtain ⟨t209, A60, H⟩ := H
    replace H : ((spec_QueueDrop.f k t209 a1).bind fun bt212 => ((laws_toDueS.f k l0).bind fun t221 => ((impl_QueueDrop.f k t221 a1).bind fun bt224 => ((laws_eqQueueOut.f k bt224.1 bt224.2.1 bt224.2.2.1 bt224.2.2.2.1 bt224.2.2.2.2.1 bt224.2.2.2.2.2 bt212.1 bt212.2.1 bt212.2.2.1 bt212.2.2.2.1 bt212.2.2.2.2.1 bt212.2.2.2.2.2).bind fun t233 => (if t233 = true then ((laws_toDueS.f k l0).bind fun t234 => ((laws_eqDueS.f k t221 t234).bind fun t237 => (if t237 = true then ((laws_markDueS.f k t221 1).bind fun bt238 => (if bt238.1 < 0 then (laws_FnExactQueueDrop.j0 k l0 a1 true bt212.1 bt212.2.1 bt212.2.2.1 bt212.2.2.2.1 bt212.2.2.2.2.1 bt212.2.2.2.2.2 bt224.1 bt224.2.1 bt224.2.2.1 bt224.2.2.2.1 bt224.2.2.2.2.1 bt224.2.2.2.2.2) else ((laws_eqQueueOut.f k bt224.1 bt224.2.1 bt224.2.2.1 bt224.2.2.2.1 bt224.2.2.2.2.1 bt224.2.2.2.2.2 bt212.1 bt212.2.1 bt212.2.2.1 bt212.2.2.2.1 bt212.2.2.2.2.1 bt212.2.2.2.2.2).bind fun t240 => (laws_FnExactQueueDrop.j0 k l0 a1 (!t240) bt212.1 bt212.2.1 bt212.2.2.1 bt212.2.2.2.1 bt212.2.2.2.2.1 bt212.2.2.2.2.2 bt224.1 bt224.2.1 bt224.2.2.1 bt224.2.2.2.1 bt224.2.2.2.2.1 bt224.2.2.2.2.2)))) else (some false)))) else (some false)))))) = some r := H
    have A6 := Aside0.mk A60
    clear A60
    replace H := Option.bind_eq_some_iff.mp H
    obtain ⟨⟨t212, t215, t216, t217, t218, t219⟩, A70, H⟩ := H
    replace H : ((laws_toDueS.f k l0).bind fun t221 => ((impl_QueueDrop.f k t221 a1).bind fun bt224 => ((laws_eqQueueOut.f k bt224.1 bt224.2.1 bt224.2.2.1 bt224.2.2.2.1 bt224.2.2.2.2.1 bt224.2.2.2.2.2 t212 t215 t216 t217 t218 t219).bind fun t233 => (if t233 = true then ((laws_toDueS.f k l0).bind fun t234 => ((laws_eqDueS.f k t221 t234).bind fun t237 => (if t237 = true then ((laws_markDueS.f k t221 1).bind fun bt238 => (if bt238.1 < 0 then (laws_FnExactQueueDrop.j0 k l0 a1 true t212 t215 t216 t217 t218 t219 bt224.1 bt224.2.1 bt224.2.2.1 bt224.2.2.2.1 bt224.2.2.2.2.1 bt224.2.2.2.2.2) else ((laws_eqQueueOut.f k bt224.1 bt224.2.1 bt224.2.2.1 bt224.2.2.2.1 bt224.2.2.2.2.1 bt224.2.2.2.2.2 t212 t215 t216 t217 t218 t219).bind fun t240 => (laws_FnExactQueueDrop.j0 k l0 a1 (!t240) t212 t215 t216 t217 t218 t219 bt224.1 bt224.2.1 bt224.2.2.1 bt224.2.2.2.1 bt224.2.2.2.2.1 bt224.2.2.2.2.2)))) else (some false)))) else (some false))))) = some r := H
    have A7 := Aside0.mk A70
    clear A70
    replace H := Option.bind_eq_some_iff.mp H
    obtain ⟨t221, A80, H⟩ := H
    replace H : ((impl_QueueDrop.f k t221 a1).bind fun bt224 => ((laws_eqQueueOut.f k bt224.1 bt224.2.1 bt224.2.2.1 bt224.2.2.2.1 bt224.2.2.2.2.1 bt224.2.2.2.2.2 t212 t215 t216 t217 t218 t219).bind fun t233 => (if t233 = true then ((laws_toDueS.f k l0).bind fun t234 => ((laws_eqDueS.f k t221 t234).bind fun t237 => (if t237 = true then ((laws_markDueS.f k t221 1).bind fun bt238 => (if bt238.1 < 0 then (laws_FnExactQueueDrop.j0 k l0 a1 true t212 t215 t216 t217 t218 t219 bt224.1 bt224.2.1 bt224.2.2.1 bt224.2.2.2.1 bt224.2.2.2.2.1 bt224.2.2.2.2.2) else ((laws_eqQueueOut.f k bt224.1 bt224.2.1 bt224.2.2.1 bt224.2.2.2.1 bt224.2.2.2.2.1 bt224.2.2.2.2.2 t212 t215 t216 t217 t218 t219).bind fun t240 => (laws_FnExactQueueDrop.j0 k l0 a1 (!t240) t212 t215 t216 t217 t218 t219 bt224.1 bt224.2.1 bt224.2.2.1 bt224.2.2.2.1 bt224.2.2.2.2.1 bt224.2.2.2.2.2)))) else (some false)))) else (some false)))) = some r := H
    have A8 := Aside0.mk A80
    clear A80
    replace H := Option.bind_eq_some_iff.mp H
    obtain ⟨⟨t224, t227, t228, t229, t230, t231⟩, A90, H⟩ := H
    replace H : ((laws_eqQueueOut.f k t224 t227 t228 t229 t230 t231 t212 t215 t216 t217 t218 t219).bind fun t233 => (if t233 = true then ((laws_toDueS.f k l0).bind fun t234 => ((laws_eqDueS.f k t221 t234).bind fun t237 => (if t237 = true then ((laws_markDueS.f k t221 1).bind fun bt238 => (if bt238.1 < 0 then (laws_FnExactQueueDrop.j0 k l0 a1 true t212 t215 t216 t217 t218 t219 t224 t227 t228 t229 t230 t231) else ((laws_eqQueueOut.f k t224 t227 t228 t229 t230 t231 t212 t215 t216 t217 t218 t219).bind fun t240 => (laws_FnExactQueueDrop.j0 k l0 a1 (!t240) t212 t215 t216 t217 t218 t219 t224 t227 t228 t229 t230 t231)))) else (some false)))) else (some false))) = some r := H
    have A9 := Aside0.mk A90
    clear A90
    replace H := Option.bind_eq_some_iff.mp H
    obtain ⟨t233, A100, H⟩ := H
    replace H : (if t233 = true then ((laws_toDueS.f k l0).bind fun t234 => ((laws_eqDueS.f k t221 t234).bind fun t237 => (if t237 = true then ((laws_markDueS.f k t221 1).bind fun bt238 => (if bt238.1 < 0 then (laws_FnExactQueueDrop.j0 k l0 a1 true t212 t215 t216 t217 t218 t219 t224 t227 t228 t229 t230 t231) else ((laws_eqQueueOut.f k t224 t227 t228 t229 t230 t231 t212 t215 t216 t217 t218 t219).bind fun t240 => (laws_FnExactQueueDrop.j0 k l0 a1 (!t240) t212 t215 t216 t217 t218 t219 t224 t227 t228 t229 t230 t231)))) else (some false)))) else (some false)) = some r := H
    have A10 := Aside0.mk A100
    clear A100
    by_cases c11 : t233 = true
    · subst c11
      have H1 : ((laws_toDueS.f k l0).bind fun t234 => ((laws_eqDueS.f k t221 t234).bind fun t237 => (if t237 = true then ((laws_markDueS.f k t221 1).bind fun bt238 => (if bt238.1 < 0 then (laws_FnExactQueueDrop.j0 k l0 a1 true t212 t215 t216 t217 t218 t219 t224 t227 t228 t229 t230 t231) else ((laws_eqQueueOut.f k t224 t227 t228 t229 t230 t231 t212 t215 t216 t217 t218 t219).bind fun t240 => (laws_FnExactQueueDrop.j0 k l0 a1 (!t240) t212 t215 t216 t217 t218 t219 t224 t227 t228 t229 t230 t231)))) else (some false)))) = some r := by rw [if_pos rfl] at H; exact H
      clear H
      have H := H1
      clear H1
      replace H := Option.bind_eq_some_iff.mp H
      obtain ⟨t234, A120, H⟩ := H
      replace H : ((laws_eqDueS.f k t221 t234).bind fun t237 => (if t237 = true then ((laws_markDueS.f k t221 1).bind fun bt238 => (if bt238.1 < 0 then (laws_FnExactQueueDrop.j0 k l0 a1 true t212 t215 t216 t217 t218 t219 t224 t227 t228 t229 t230 t231) else ((laws_eqQueueOut.f k t224 t227 t228 t229 t230 t231 t212 t215 t216 t217 t218 t219).bind fun t240 => (laws_FnExactQueueDrop.j0 k l0 a1 (!t240) t212 t215 t216 t217 t218 t219 t224 t227 t228 t229 t230 t231)))) else (some false))) = some r := H
      have A12 := Aside0.mk A120
      clear A120
      replace H := Option.bind_eq_some_iff.mp H
      obtain ⟨t237, A130, H⟩ := H
      replace H : (if t237 = true then ((laws_markDueS.f k t221 1).bind fun bt238 => (if bt238.1 < 0 then (laws_FnExactQueueDrop.j0 k l0 a1 true t212 t215 t216 t217 t218 t219 t224 t227 t228 t229 t230 t231) else ((laws_eqQueueOut.f k t224 t227 t228 t229 t230 t231 t212 t215 t216 t217 t218 t219).bind fun t240 => (laws_FnExactQueueDrop.j0 k l0 a1 (!t240) t212 t215 t216 t217 t218 t219 t224 t227 t228 t229 t230 t231)))) else (some false)) = some r := H
      have A13 := Aside0.mk A130
      clear A130
      by_cases c14 : t237 = true
      · subst c14
        have H1 : ((laws_markDueS.f k t221 1).bind fun bt238 => (if bt238.1 < 0 then (laws_FnExactQueueDrop.j0 k l0 a1 true t212 t215 t216 t217 t218 t219 t224 t227 t228 t229 t230 t231) else ((laws_eqQueueOut.f k t224 t227 t228 t229 t230 t231 t212 t215 t216 t217 t218 t219).bind fun t240 => (laws_FnExactQueueDrop.j0 k l0 a1 (!t240) t212 t215 t216 t217 t218 t219 t224 t227 t228 t229 t230 t231)))) = some r := by rw [if_pos rfl] at H; exact H
        clear H
        have H := H1
        clear H1
        replace H := Option.bind_eq_some_iff.mp H
        obtain ⟨⟨t238, t239⟩, A150, H⟩ := H
        replace H : (if t238 < 0 then (laws_FnExactQueueDrop.j0 k l0 a1 true t212 t215 t216 t217 t218 t219 t224 t227 t228 t229 t230 t231) else ((laws_eqQueueOut.f k t224 t227 t228 t229 t230 t231 t212 t215 t216 t217 t218 t219).bind fun t240 => (laws_FnExactQueueDrop.j0 k l0 a1 (!t240) t212 t215 t216 t217 t218 t219 t224 t227 t228 t229 t230 t231))) = some r := H
        have A15 := Aside0.mk A150
        clear A150
        have HC16 := Aside0.mk H
        clear H
        go_enter Try.func9, Try.ntmps9
        go_upto_region 14 with (first | ((with_reducible refine gate_callee (f := 36) rfl ?_); refine goesL_ (some 15) rfl rfl Try.func36 (by kernel_rfl) rfl #[.slice A0 l0.length c0, .int .i64 1048576] rfl (by (try simp only [List.map_toArray, List.map_cons, List.map_nil]); first | done | rfl | (simp only [List.length_drop, List.length_take]; rfl)) ?_; (with_reducible refine (laws_szDueS.calls k _ _ l0 1048576 t208 _ ?side1 ?side2 A3.out).mono ?_); (case side1 => repeat (first | exact HR0.out | (with_reducible refine Kd.C_alloc ?_ _) | (with_reducible refine Kd.C_drewN ?_ _) | (with_reducible refine Kd.C_drew ?_))); (case side2 => exact HC0.out); rintro e w17 ⟨rfl, hb⟩; refine ⟨_, rfl, ?_⟩; have n0_ := Aside0.mk (below_step (by repeat (first | (with_reducible first | exact HB.out | apply below_alloc | apply pw_below_drewN | apply below_drew1) | exact HB.out)) hb); clear HB; have HB := n0_; clear n0_; (try clear hb); (try clear hb2); (try clear hk); (try clear hi)) | ((with_reducible refine gate_callee (f := 38) rfl ?_); refine goesL_ (some 19) rfl rfl Try.func38 (by kernel_rfl) rfl #[.slice A0 l0.length c0] rfl (by (try simp only [List.map_toArray, List.map_cons, List.map_nil]); first | done | rfl | (simp only [List.length_drop, List.length_take]; rfl)) ?_; (with_reducible refine (laws_toDueS.calls k _ _ l0 t209 _ ?side1 ?side2 A6.out).mono ?_); (case side1 => repeat (first | exact (Kd.C_below HR0.out HB.out) | (with_reducible refine Kd.C_alloc ?_ _) | (with_reducible refine Kd.C_drewN ?_ _) | (with_reducible refine Kd.C_drew ?_))); (case side2 => exact HC0.out); rintro e w18 ⟨v210, rfl, ho0, hb⟩; refine ⟨_, rfl, ?_⟩; have n0_ := Aside0.mk (Kd.R_lower ho0 (below_size (by repeat (first | (with_reducible first | exact HB.out | apply below_alloc | apply pw_below_drewN | apply below_drew1) | exact HB.out)))); have n1_ := Aside0.mk (below_step (by repeat (first | (with_reducible first | exact HB.out | apply below_alloc | apply pw_below_drewN | apply below_drew1) | exact HB.out)) hb); clear HB; have HO211 := n0_; have HB := n1_; clear n0_ n1_; (try clear hb); (try clear hb2); (try clear hk); (try clear hi); (try clear ho0); obtain ⟨Ao19, co19, eo19⟩ := Kd.R_slice HO211.out; subst eo19) | ((with_reducible refine gate_callee (f := 47) rfl ?_); refine goesL_ (some 21) rfl rfl Try.func47 (by kernel_rfl) rfl #[.slice Ao19 t209.length co19, .int .i64 a1] rfl (by (try simp only [List.map_toArray, List.map_cons, List.map_nil]); first | done | rfl | (simp only [List.length_drop, List.length_take]; rfl)) ?_; (with_reducible refine (spec_QueueDrop.calls k _ _ t209 a1 t212 t215 t216 t217 t218 t219 _ ?side1 ?side2 A7.out).mono ?_); (case side1 => repeat (first | exact (Kd.R_reads' HO211.out).2.2 | (with_reducible refine Kd.C_alloc ?_ _) | (with_reducible refine Kd.C_drewN ?_ _) | (with_reducible refine Kd.C_drew ?_))); (case side2 => exact (Kd.R_reads' HO211.out).2.1); rintro e w20 ⟨v213, rfl, ho0, hb⟩; refine ⟨_, rfl, ?_⟩; have n0_ := Aside0.mk (Kd.R_elder' (by (with_reducible repeat (first | apply Kd.R_alloc | apply Kd.R_drewN | apply Kd.R_drew)); exact HO211.out) (Kd.R_base ho0) hb); have n1_ := Aside0.mk (Kd.R_lower (Kd.R_new' ho0 (Kd.R_lt (by (with_reducible repeat (first | apply Kd.R_alloc | apply Kd.R_drewN | apply Kd.R_drew)); exact HO211.out))) (below_size (by repeat (first | (with_reducible first | exact HB.out | apply below_alloc | apply pw_below_drewN | apply below_drew1) | exact HB.out)))); have n2_ := Aside0.mk (below_step (by repeat (first | (with_reducible first | exact HB.out | apply below_alloc | apply pw_below_drewN | apply below_drew1) | exact HB.out)) hb); clear HO211; clear HB; have HO211 := n0_; have HO214 := n1_; have HB := n2_; clear n0_ n1_ n2_; (try clear hb); (try clear hb2); (try clear hk); (try clear hi); (try clear ho0)) | ((with_reducible refine gate_dst (N := 6) rfl ?_); refine box_event ?hg (N := 6) ?hd (cs := #[.slice none 0 0, .int .i64 0, .int .i64 0, .int .i64 0, .string (⟨#[]⟩ : ByteArray), .int .i64 0]) (t := 64) ?hr ?_; (case hd => rfl); (case hg => rfl); (case hr => first | (go_simp; done) | (go_simp; rfl)); intro gb220 hg w21 hbox hb; have n0_ := Aside0.mk (Kd.R_below (by (with_reducible repeat (first | apply Kd.R_alloc | apply Kd.R_drewN | apply Kd.R_drew)); exact HO211.out) hb); have n1_ := Aside0.mk (Kd.R_below (by (with_reducible repeat (first | apply Kd.R_alloc | apply Kd.R_drewN | apply Kd.R_drew)); exact HO214.out) hb); have n2_ := Aside0.mk (below_step (by repeat (first | (with_reducible first | exact HB.out | apply below_alloc | apply pw_below_drewN | apply below_drew1) | exact HB.out)) hb); have n3_ := Aside0.mk (hbox); have n4_ := Aside0.mk ((by rw [hg]; exact (below_size (by repeat (first | (with_reducible first | exact HB.out | apply below_alloc | apply pw_below_drewN | apply below_drew1) | exact HB.out))) : w.heap.size ≤ gb220)); have n5_ := Aside0.mk ((by rw [hg]; exact (below_size (by repeat (first | (with_reducible first | exact HB.out | apply below_alloc | apply pw_below_drewN | apply below_drew1) | exact HB.out))) : w.heap.size ≤ gb220)); clear HO211; clear HO214; clear HB; have HO211 := n0_; have HO214 := n1_; have HB := n2_; have BK220 := n3_; have GW220 := n4_; have GE220 := n5_; clear n0_ n1_ n2_ n3_ n4_ n5_; clear hb hbox hg; obtain ⟨Ao22, co22, eo22⟩ := Kd.R_slice HO214.out; subst eo22; have hcz23_0 : w21.cell? ⟨gb220, 0, none⟩ = some (.slice none 0 0) := (blk_cell BK220.out 0).trans rfl; have hcz23_1 : w21.cell? ⟨gb220, 1, none⟩ = some (.int .i64 0) := (blk_cell BK220.out 1).trans rfl; have hcz23_2 : w21.cell? ⟨gb220, 2, none⟩ = some (.int .i64 0) := (blk_cell BK220.out 2).trans rfl; have hcz23_3 : w21.cell? ⟨gb220, 3, none⟩ = some (.int .i64 0) := (blk_cell BK220.out 3).trans rfl; have hcz23_4 : w21.cell? ⟨gb220, 4, none⟩ = some (.string (⟨#[]⟩ : ByteArray)) := (blk_cell BK220.out 4).trans rfl; have hcz23_5 : w21.cell? ⟨gb220, 5, none⟩ = some (.int .i64 0) := (blk_cell BK220.out 5).trans rfl; have hfz23_0 := blk_frozen BK220.out 0; have hfz23_1 := blk_frozen BK220.out 1; have hfz23_2 := blk_frozen BK220.out 2; have hfz23_3 := blk_frozen BK220.out 3; have hfz23_4 := blk_frozen BK220.out 4; have hfz23_5 := blk_frozen BK220.out 5) | ((with_reducible refine gate_callee (f := 38) rfl ?_); refine goesL_ (some 23) rfl rfl Try.func38 (by kernel_rfl) rfl #[.slice A0 l0.length c0] rfl (by (try simp only [List.map_toArray, List.map_cons, List.map_nil]); first | done | rfl | (simp only [List.length_drop, List.length_take]; rfl)) ?_; (with_reducible refine (laws_toDueS.calls k _ _ l0 t221 _ ?side1 ?side2 A8.out).mono ?_); (case side1 => exact Kd.C_below HR0.out (by repeat (first | (with_reducible first | exact HB.out | apply below_alloc | apply pw_below_drewN | apply below_drew1 | refine below_set ?_ GE220.out) | exact HB.out))); (case side2 => exact HC0.out); rintro e w24 ⟨v222, rfl, ho0, hb⟩; refine ⟨_, rfl, ?_⟩; have n0_ := Aside0.mk (Kd.R_elder' (by (with_reducible repeat (first | apply Kd.R_alloc | apply Kd.R_drewN | apply Kd.R_drew)); exact (Kd.R_mono (Kd.R_far (p := ⟨gb220, 5, none⟩) (Kd.R_far (p := ⟨gb220, 4, none⟩) (Kd.R_far (p := ⟨gb220, 3, none⟩) (Kd.R_far (p := ⟨gb220, 2, none⟩) (Kd.R_far (p := ⟨gb220, 1, none⟩) (Kd.R_far (p := ⟨gb220, 0, none⟩) (Kd.R_types HO211.out BK220.out (by decide)) (fun _ hk => hk.2) (.slice Ao22 t212.length co22)) (fun _ hk => hk.2) (.int .i64 t215)) (fun _ hk => hk.2) (.int .i64 t216)) (fun _ hk => hk.2) (.int .i64 t217)) (fun _ hk => hk.2) (.string t218)) (fun _ hk => hk.2) (.int .i64 t219)) (fun _ h_ => h_.1))) (Kd.R_base ho0) hb); have n1_ := Aside0.mk (Kd.R_elder' (by (with_reducible repeat (first | apply Kd.R_alloc | apply Kd.R_drewN | apply Kd.R_drew)); exact (Kd.R_mono (Kd.R_far (p := ⟨gb220, 5, none⟩) (Kd.R_far (p := ⟨gb220, 4, none⟩) (Kd.R_far (p := ⟨gb220, 3, none⟩) (Kd.R_far (p := ⟨gb220, 2, none⟩) (Kd.R_far (p := ⟨gb220, 1, none⟩) (Kd.R_far (p := ⟨gb220, 0, none⟩) (Kd.R_types HO214.out BK220.out (by decide)) (fun _ hk => hk.2) (.slice Ao22 t212.length co22)) (fun _ hk => hk.2) (.int .i64 t215)) (fun _ hk => hk.2) (.int .i64 t216)) (fun _ hk => hk.2) (.int .i64 t217)) (fun _ hk => hk.2) (.string t218)) (fun _ hk => hk.2) (.int .i64 t219)) (fun _ h_ => h_.1))) (Kd.R_base ho0) hb); have n2_ := Aside0.mk (Kd.R_lower (Kd.R_new' (Kd.R_new' ho0 (Kd.R_lt (by (with_reducible repeat (first | apply Kd.R_alloc | apply Kd.R_drewN | apply Kd.R_drew)); exact (Kd.R_mono (Kd.R_far (p := ⟨gb220, 5, none⟩) (Kd.R_far (p := ⟨gb220, 4, none⟩) (Kd.R_far (p := ⟨gb220, 3, none⟩) (Kd.R_far (p := ⟨gb220, 2, none⟩) (Kd.R_far (p := ⟨gb220, 1, none⟩) (Kd.R_far (p := ⟨gb220, 0, none⟩) (Kd.R_types HO211.out BK220.out (by decide)) (fun _ hk => hk.2) (.slice Ao22 t212.length co22)) (fun _ hk => hk.2) (.int .i64 t215)) (fun _ hk => hk.2) (.int .i64 t216)) (fun _ hk => hk.2) (.int .i64 t217)) (fun _ hk => hk.2) (.string t218)) (fun _ hk => hk.2) (.int .i64 t219)) (fun _ h_ => h_.1))))) (Kd.R_lt (by (with_reducible repeat (first | apply Kd.R_alloc | apply Kd.R_drewN | apply Kd.R_drew)); exact (Kd.R_mono (Kd.R_far (p := ⟨gb220, 5, none⟩) (Kd.R_far (p := ⟨gb220, 4, none⟩) (Kd.R_far (p := ⟨gb220, 3, none⟩) (Kd.R_far (p := ⟨gb220, 2, none⟩) (Kd.R_far (p := ⟨gb220, 1, none⟩) (Kd.R_far (p := ⟨gb220, 0, none⟩) (Kd.R_types HO214.out BK220.out (by decide)) (fun _ hk => hk.2) (.slice Ao22 t212.length co22)) (fun _ hk => hk.2) (.int .i64 t215)) (fun _ hk => hk.2) (.int .i64 t216)) (fun _ hk => hk.2) (.int .i64 t217)) (fun _ hk => hk.2) (.string t218)) (fun _ hk => hk.2) (.int .i64 t219)) (fun _ h_ => h_.1))))) (below_size (by repeat (first | (with_reducible first | exact HB.out | apply below_alloc | apply pw_below_drewN | apply below_drew1 | refine below_set ?_ GE220.out) | exact HB.out)))); have n3_ := Aside0.mk (blk_below (g := gb220) (o := .cells #[.slice Ao22 t212.length co22, .int .i64 t215, .int .i64 t216, .int .i64 t217, .string t218, .int .i64 t219] 64 (0, 0)) (by (with_reducible repeat (first | refine blk_drewN ?_ _ | refine blk_drew ?_ | refine blk_alloc ?_ _)); refine blk_put (cs := #[.slice Ao22 t212.length co22, .int .i64 t215, .int .i64 t216, .int .i64 t217, .string t218, .int .i64 0]) ?_ 5 _ rfl; (with_reducible repeat (first | refine blk_drewN ?_ _ | refine blk_drew ?_ | refine blk_alloc ?_ _)); refine blk_put (cs := #[.slice Ao22 t212.length co22, .int .i64 t215, .int .i64 t216, .int .i64 t217, .string (⟨#[]⟩ : ByteArray), .int .i64 0]) ?_ 4 _ rfl; (with_reducible repeat (first | refine blk_drewN ?_ _ | refine blk_drew ?_ | refine blk_alloc ?_ _)); refine blk_put (cs := #[.slice Ao22 t212.length co22, .int .i64 t215, .int .i64 t216, .int .i64 0, .string (⟨#[]⟩ : ByteArray), .int .i64 0]) ?_ 3 _ rfl; (with_reducible repeat (first | refine blk_drewN ?_ _ | refine blk_drew ?_ | refine blk_alloc ?_ _)); refine blk_put (cs := #[.slice Ao22 t212.length co22, .int .i64 t215, .int .i64 0, .int .i64 0, .string (⟨#[]⟩ : ByteArray), .int .i64 0]) ?_ 2 _ rfl; (with_reducible repeat (first | refine blk_drewN ?_ _ | refine blk_drew ?_ | refine blk_alloc ?_ _)); refine blk_put (cs := #[.slice Ao22 t212.length co22, .int .i64 0, .int .i64 0, .int .i64 0, .string (⟨#[]⟩ : ByteArray), .int .i64 0]) ?_ 1 _ rfl; (with_reducible repeat (first | refine blk_drewN ?_ _ | refine blk_drew ?_ | refine blk_alloc ?_ _)); refine blk_put (cs := #[.slice none 0 0, .int .i64 0, .int .i64 0, .int .i64 0, .string (⟨#[]⟩ : ByteArray), .int .i64 0]) ?_ 0 _ rfl; (with_reducible repeat (first | refine blk_drewN ?_ _ | refine blk_drew ?_ | refine blk_alloc ?_ _)); exact BK220.out) hb); have n4_ := Aside0.mk (below_step (by repeat (first | (with_reducible first | exact HB.out | apply below_alloc | apply pw_below_drewN | apply below_drew1 | refine below_set ?_ GE220.out) | exact HB.out)) hb); clear HO211; clear HO214; clear BK220; clear HB; have HO211 := n0_; have HO214 := n1_; have HO223 := n2_; have BK220 := n3_; have HB := n4_; clear n0_ n1_ n2_ n3_ n4_; (try clear hb); (try clear hb2); (try clear hk); (try clear hi); (try clear ho0); obtain ⟨Ao25, co25, eo25⟩ := Kd.R_slice HO223.out; subst eo25) | ((with_reducible refine gate_callee (f := 48) rfl ?_); refine goesL_ (some 26) rfl rfl Try.func48 (by kernel_rfl) rfl #[.slice Ao25 t221.length co25, .int .i64 a1] rfl (by (try simp only [List.map_toArray, List.map_cons, List.map_nil]); first | done | rfl | (simp only [List.length_drop, List.length_take]; rfl)) ?_; (with_reducible refine (impl_QueueDrop.calls k _ _ t221 a1 t224 t227 t228 t229 t230 t231 _ ?side1 ?side2 A9.out).mono ?_); (case side1 => repeat (first | exact (Kd.R_reads' HO223.out).2.2 | (with_reducible refine Kd.C_alloc ?_ _) | (with_reducible refine Kd.C_drewN ?_ _) | (with_reducible refine Kd.C_drew ?_))); (case side2 => exact (Kd.R_reads' HO223.out).2.1); rintro e w26 ⟨v225, rfl, ho0, hb⟩; refine ⟨_, rfl, ?_⟩; have n0_ := Aside0.mk (Kd.R_elder' (by (with_reducible repeat (first | apply Kd.R_alloc | apply Kd.R_drewN | apply Kd.R_drew)); exact HO211.out) (Kd.R_base ho0) hb); have n1_ := Aside0.mk (Kd.R_elder' (by (with_reducible repeat (first | apply Kd.R_alloc | apply Kd.R_drewN | apply Kd.R_drew)); exact HO214.out) (Kd.R_base ho0) hb); have n2_ := Aside0.mk (Kd.R_elder' (by (with_reducible repeat (first | apply Kd.R_alloc | apply Kd.R_drewN | apply Kd.R_drew)); exact HO223.out) (Kd.R_base ho0) hb); have n3_ := Aside0.mk (Kd.R_lower (Kd.R_new' (Kd.R_new' (Kd.R_new' ho0 (Kd.R_lt (by (with_reducible repeat (first | apply Kd.R_alloc | apply Kd.R_drewN | apply Kd.R_drew)); exact HO211.out))) (Kd.R_lt (by (with_reducible repeat (first | apply Kd.R_alloc | apply Kd.R_drewN | apply Kd.R_drew)); exact HO214.out))) (Kd.R_lt (by (with_reducible repeat (first | apply Kd.R_alloc | apply Kd.R_drewN | apply Kd.R_drew)); exact HO223.out))) (below_size (by repeat (first | (with_reducible first | exact HB.out | apply below_alloc | apply pw_below_drewN | apply below_drew1 | refine below_set ?_ GE220.out) | exact HB.out)))); have n4_ := Aside0.mk (blk_below (g := gb220) (o := .cells #[.slice Ao22 t212.length co22, .int .i64 t215, .int .i64 t216, .int .i64 t217, .string t218, .int .i64 t219] 64 (0, 0)) (by (with_reducible repeat (first | refine blk_drewN ?_ _ | refine blk_drew ?_ | refine blk_alloc ?_ _)); exact BK220.out) hb); have n5_ := Aside0.mk (below_step (by repeat (first | (with_reducible first | exact HB.out | apply below_alloc | apply pw_below_drewN | apply below_drew1 | refine below_set ?_ GE220.out) | exact HB.out)) hb); clear HO211; clear HO214; clear HO223; clear BK220; clear HB; have HO211 := n0_; have HO214 := n1_; have HO223 := n2_; have HO226 := n3_; have BK220 := n4_; have HB := n5_; clear n0_ n1_ n2_ n3_ n4_ n5_; (try clear hb); (try clear hb2); (try clear hk); (try clear hi); (try clear ho0)) | ((with_reducible refine gate_dst (N := 8) rfl ?_); refine box_event ?hg (N := 8) ?hd (cs := #[.slice none 0 0, .int .i64 0, .int .i64 0, .int .i64 0, .string (⟨#[]⟩ : ByteArray), .int .i64 0]) (t := 64) ?hr ?_; (case hd => rfl); (case hg => rfl); (case hr => first | (go_simp; done) | (go_simp; rfl)); intro gb232 hg w27 hbox hb; have n0_ := Aside0.mk (Kd.R_below (by (with_reducible repeat (first | apply Kd.R_alloc | apply Kd.R_drewN | apply Kd.R_drew)); exact HO211.out) hb); have n1_ := Aside0.mk (Kd.R_below (by (with_reducible repeat (first | apply Kd.R_alloc | apply Kd.R_drewN | apply Kd.R_drew)); exact HO214.out) hb); have n2_ := Aside0.mk (Kd.R_below (by (with_reducible repeat (first | apply Kd.R_alloc | apply Kd.R_drewN | apply Kd.R_drew)); exact HO223.out) hb); have n3_ := Aside0.mk (Kd.R_below (by (with_reducible repeat (first | apply Kd.R_alloc | apply Kd.R_drewN | apply Kd.R_drew)); exact HO226.out) hb); have n4_ := Aside0.mk (blk_below (g := gb220) (o := .cells #[.slice Ao22 t212.length co22, .int .i64 t215, .int .i64 t216, .int .i64 t217, .string t218, .int .i64 t219] 64 (0, 0)) (by (with_reducible repeat (first | refine blk_drewN ?_ _ | refine blk_drew ?_ | refine blk_alloc ?_ _)); exact BK220.out) hb); have n5_ := Aside0.mk (below_step (by repeat (first | (with_reducible first | exact HB.out | apply below_alloc | apply pw_below_drewN | apply below_drew1 | refine below_set ?_ GE220.out) | exact HB.out)) hb); have n6_ := Aside0.mk (hbox); have n7_ := Aside0.mk ((by rw [hg]; exact (below_size (by repeat (first | (with_reducible first | exact HB.out | apply below_alloc | apply pw_below_drewN | apply below_drew1 | refine below_set ?_ GE220.out) | exact HB.out))) : w.heap.size ≤ gb232)); have n8_ := Aside0.mk ((by rw [hg]; exact (below_size (by repeat (first | (with_reducible first | exact HB.out | apply below_alloc | apply pw_below_drewN | apply below_drew1 | refine below_set ?_ GE220.out) | exact HB.out))) : w.heap.size ≤ gb232)); have n9_ := Aside0.mk ((by rw [hg]; exact Nat.ne_of_lt (blk_lt (g := gb220) (o := .cells #[.slice Ao22 t212.length co22, .int .i64 t215, .int .i64 t216, .int .i64 t217, .string t218, .int .i64 t219] 64 (0, 0)) (by (with_reducible repeat (first | refine blk_drewN ?_ _ | refine blk_drew ?_ | refine blk_alloc ?_ _)); exact BK220.out)) : gb220 ≠ gb232)); have n10_ := Aside0.mk ((by rw [hg]; exact Nat.ne_of_gt (blk_lt (g := gb220) (o := .cells #[.slice Ao22 t212.length co22, .int .i64 t215, .int .i64 t216, .int .i64 t217, .string t218, .int .i64 t219] 64 (0, 0)) (by (with_reducible repeat (first | refine blk_drewN ?_ _ | refine blk_drew ?_ | refine blk_alloc ?_ _)); exact BK220.out)) : gb232 ≠ gb220)); clear HO211; clear HO214; clear HO223; clear HO226; clear BK220; clear HB; have HO211 := n0_; have HO214 := n1_; have HO223 := n2_; have HO226 := n3_; have BK220 := n4_; have HB := n5_; have BK232 := n6_; have GW232 := n7_; have GE232 := n8_; have NB220_232 := n9_; have NB232_220 := n10_; clear n0_ n1_ n2_ n3_ n4_ n5_ n6_ n7_ n8_ n9_ n10_; clear hb hbox hg; obtain ⟨Ao28, co28, eo28⟩ := Kd.R_slice HO226.out; subst eo28; have hnb29 := NB232_220.out; have hnc29 := NB220_232.out; have hcz30_0 : w27.cell? ⟨gb232, 0, none⟩ = some (.slice none 0 0) := (blk_cell BK232.out 0).trans rfl; have hcz30_1 : w27.cell? ⟨gb232, 1, none⟩ = some (.int .i64 0) := (blk_cell BK232.out 1).trans rfl; have hcz30_2 : w27.cell? ⟨gb232, 2, none⟩ = some (.int .i64 0) := (blk_cell BK232.out 2).trans rfl; have hcz30_3 : w27.cell? ⟨gb232, 3, none⟩ = some (.int .i64 0) := (blk_cell BK232.out 3).trans rfl; have hcz30_4 : w27.cell? ⟨gb232, 4, none⟩ = some (.string (⟨#[]⟩ : ByteArray)) := (blk_cell BK232.out 4).trans rfl; have hcz30_5 : w27.cell? ⟨gb232, 5, none⟩ = some (.int .i64 0) := (blk_cell BK232.out 5).trans rfl; have hfz30_0 := blk_frozen BK232.out 0; have hfz30_1 := blk_frozen BK232.out 1; have hfz30_2 := blk_frozen BK232.out 2; have hfz30_3 := blk_frozen BK232.out 3; have hfz30_4 := blk_frozen BK232.out 4; have hfz30_5 := blk_frozen BK232.out 5; have hcz31_0 : w27.cell? ⟨gb220, 0, none⟩ = some (.slice Ao22 t212.length co22) := (blk_cell BK220.out 0).trans rfl; have hcz31_1 : w27.cell? ⟨gb220, 1, none⟩ = some (.int .i64 t215) := (blk_cell BK220.out 1).trans rfl; have hcz31_2 : w27.cell? ⟨gb220, 2, none⟩ = some (.int .i64 t216) := (blk_cell BK220.out 2).trans rfl; have hcz31_3 : w27.cell? ⟨gb220, 3, none⟩ = some (.int .i64 t217) := (blk_cell BK220.out 3).trans rfl; have hcz31_4 : w27.cell? ⟨gb220, 4, none⟩ = some (.string t218) := (blk_cell BK220.out 4).trans rfl; have hcz31_5 : w27.cell? ⟨gb220, 5, none⟩ = some (.int .i64 t219) := (blk_cell BK220.out 5).trans rfl; have hfz31_0 := blk_frozen BK220.out 0; have hfz31_1 := blk_frozen BK220.out 1; have hfz31_2 := blk_frozen BK220.out 2; have hfz31_3 := blk_frozen BK220.out 3; have hfz31_4 := blk_frozen BK220.out 4; have hfz31_5 := blk_frozen BK220.out 5) | ((with_reducible refine gate_callee (f := 43) rfl ?_); refine goesL_ (some 29) rfl rfl Try.func43 (by kernel_rfl) rfl #[.agg #[.slice Ao28 t224.length co28, .int .i64 t227, .int .i64 t228, .int .i64 t229, .string t230, .int .i64 t231], .agg #[.slice Ao22 t212.length co22, .int .i64 t215, .int .i64 t216, .int .i64 t217, .string t218, .int .i64 t219]] rfl (by (try simp only [List.map_toArray, List.map_cons, List.map_nil]); first | done | rfl | (simp only [List.length_drop, List.length_take]; rfl)) ?_; (with_reducible refine (laws_eqQueueOut.calls k _ _ t224 t227 t228 t229 t230 t231 _ _ t212 t215 t216 t217 t218 t219 true _ ?side1 ?side2 ?side3 ?side4 A10.out).mono ?_); (case side1 => refine (Kd.R_reads' (e := 62) (base := w.heap.size) (ok := fun k_ => (((True ∧ some k_ ≠ (.slice Ao19 t209.length co19 : Value).ownBlock) ∧ some k_ ≠ (.slice Ao22 t212.length co22 : Value).ownBlock) ∧ some k_ ≠ (.slice Ao25 t221.length co25 : Value).ownBlock)) (n := t224.length) (c := co28) ?_).2.2; exact (by (with_reducible repeat (first | apply Kd.R_alloc | apply Kd.R_drewN | apply Kd.R_drew)); exact (Kd.R_mono (Kd.R_far (p := ⟨gb232, 5, none⟩) (Kd.R_far (p := ⟨gb232, 4, none⟩) (Kd.R_far (p := ⟨gb232, 3, none⟩) (Kd.R_far (p := ⟨gb232, 2, none⟩) (Kd.R_far (p := ⟨gb232, 1, none⟩) (Kd.R_far (p := ⟨gb232, 0, none⟩) (Kd.R_types HO226.out BK232.out (by decide)) (fun _ hk => hk.2) (.slice Ao28 t224.length co28)) (fun _ hk => hk.2) (.int .i64 t227)) (fun _ hk => hk.2) (.int .i64 t228)) (fun _ hk => hk.2) (.int .i64 t229)) (fun _ hk => hk.2) (.string t230)) (fun _ hk => hk.2) (.int .i64 t231)) (fun _ h_ => h_.1)))); (case side2 => exact (Kd.R_reads' HO226.out).2.1); (case side3 => refine (Kd.R_reads' (e := 62) (base := w.heap.size) (ok := fun k_ => (((True ∧ some k_ ≠ (.slice Ao19 t209.length co19 : Value).ownBlock) ∧ some k_ ≠ (.slice Ao25 t221.length co25 : Value).ownBlock) ∧ some k_ ≠ (.slice Ao28 t224.length co28 : Value).ownBlock)) (n := t212.length) (c := co22) ?_).2.2; exact (by (with_reducible repeat (first | apply Kd.R_alloc | apply Kd.R_drewN | apply Kd.R_drew)); exact (Kd.R_mono (Kd.R_far (p := ⟨gb232, 5, none⟩) (Kd.R_far (p := ⟨gb232, 4, none⟩) (Kd.R_far (p := ⟨gb232, 3, none⟩) (Kd.R_far (p := ⟨gb232, 2, none⟩) (Kd.R_far (p := ⟨gb232, 1, none⟩) (Kd.R_far (p := ⟨gb232, 0, none⟩) (Kd.R_types HO214.out BK232.out (by decide)) (fun _ hk => hk.2) (.slice Ao28 t224.length co28)) (fun _ hk => hk.2) (.int .i64 t227)) (fun _ hk => hk.2) (.int .i64 t228)) (fun _ hk => hk.2) (.int .i64 t229)) (fun _ hk => hk.2) (.string t230)) (fun _ hk => hk.2) (.int .i64 t231)) (fun _ h_ => h_.1)))); (case side4 => exact (Kd.R_reads' HO214.out).2.1); rintro e w32 ⟨rfl, hb⟩; refine ⟨_, rfl, ?_⟩; have n0_ := Aside0.mk (Kd.R_below (by (with_reducible repeat (first | apply Kd.R_alloc | apply Kd.R_drewN | apply Kd.R_drew)); exact (Kd.R_mono (Kd.R_far (p := ⟨gb232, 5, none⟩) (Kd.R_far (p := ⟨gb232, 4, none⟩) (Kd.R_far (p := ⟨gb232, 3, none⟩) (Kd.R_far (p := ⟨gb232, 2, none⟩) (Kd.R_far (p := ⟨gb232, 1, none⟩) (Kd.R_far (p := ⟨gb232, 0, none⟩) (Kd.R_types HO211.out BK232.out (by decide)) (fun _ hk => hk.2) (.slice Ao28 t224.length co28)) (fun _ hk => hk.2) (.int .i64 t227)) (fun _ hk => hk.2) (.int .i64 t228)) (fun _ hk => hk.2) (.int .i64 t229)) (fun _ hk => hk.2) (.string t230)) (fun _ hk => hk.2) (.int .i64 t231)) (fun _ h_ => h_.1))) hb); have n1_ := Aside0.mk (Kd.R_below (by (with_reducible repeat (first | apply Kd.R_alloc | apply Kd.R_drewN | apply Kd.R_drew)); exact (Kd.R_mono (Kd.R_far (p := ⟨gb232, 5, none⟩) (Kd.R_far (p := ⟨gb232, 4, none⟩) (Kd.R_far (p := ⟨gb232, 3, none⟩) (Kd.R_far (p := ⟨gb232, 2, none⟩) (Kd.R_far (p := ⟨gb232, 1, none⟩) (Kd.R_far (p := ⟨gb232, 0, none⟩) (Kd.R_types HO214.out BK232.out (by decide)) (fun _ hk => hk.2) (.slice Ao28 t224.length co28)) (fun _ hk => hk.2) (.int .i64 t227)) (fun _ hk => hk.2) (.int .i64 t228)) (fun _ hk => hk.2) (.int .i64 t229)) (fun _ hk => hk.2) (.string t230)) (fun _ hk => hk.2) (.int .i64 t231)) (fun _ h_ => h_.1))) hb); have n2_ := Aside0.mk (Kd.R_below (by (with_reducible repeat (first | apply Kd.R_alloc | apply Kd.R_drewN | apply Kd.R_drew)); exact (Kd.R_mono (Kd.R_far (p := ⟨gb232, 5, none⟩) (Kd.R_far (p := ⟨gb232, 4, none⟩) (Kd.R_far (p := ⟨gb232, 3, none⟩) (Kd.R_far (p := ⟨gb232, 2, none⟩) (Kd.R_far (p := ⟨gb232, 1, none⟩) (Kd.R_far (p := ⟨gb232, 0, none⟩) (Kd.R_types HO223.out BK232.out (by decide)) (fun _ hk => hk.2) (.slice Ao28 t224.length co28)) (fun _ hk => hk.2) (.int .i64 t227)) (fun _ hk => hk.2) (.int .i64 t228)) (fun _ hk => hk.2) (.int .i64 t229)) (fun _ hk => hk.2) (.string t230)) (fun _ hk => hk.2) (.int .i64 t231)) (fun _ h_ => h_.1))) hb); have n3_ := Aside0.mk (Kd.R_below (by (with_reducible repeat (first | apply Kd.R_alloc | apply Kd.R_drewN | apply Kd.R_drew)); exact (Kd.R_mono (Kd.R_far (p := ⟨gb232, 5, none⟩) (Kd.R_far (p := ⟨gb232, 4, none⟩) (Kd.R_far (p := ⟨gb232, 3, none⟩) (Kd.R_far (p := ⟨gb232, 2, none⟩) (Kd.R_far (p := ⟨gb232, 1, none⟩) (Kd.R_far (p := ⟨gb232, 0, none⟩) (Kd.R_types HO226.out BK232.out (by decide)) (fun _ hk => hk.2) (.slice Ao28 t224.length co28)) (fun _ hk => hk.2) (.int .i64 t227)) (fun _ hk => hk.2) (.int .i64 t228)) (fun _ hk => hk.2) (.int .i64 t229)) (fun _ hk => hk.2) (.string t230)) (fun _ hk => hk.2) (.int .i64 t231)) (fun _ h_ => h_.1))) hb); have n4_ := Aside0.mk (blk_below (g := gb220) (o := .cells #[.slice Ao22 t212.length co22, .int .i64 t215, .int .i64 t216, .int .i64 t217, .string t218, .int .i64 t219] 64 (0, 0)) (by (with_reducible repeat (first | refine blk_drewN ?_ _ | refine blk_drew ?_ | refine blk_alloc ?_ _)); refine blk_far ?_ NB220_232.out _; (with_reducible repeat (first | refine blk_drewN ?_ _ | refine blk_drew ?_ | refine blk_alloc ?_ _)); refine blk_far ?_ NB220_232.out _; (with_reducible repeat (first | refine blk_drewN ?_ _ | refine blk_drew ?_ | refine blk_alloc ?_ _)); refine blk_far ?_ NB220_232.out _; (with_reducible repeat (first | refine blk_drewN ?_ _ | refine blk_drew ?_ | refine blk_alloc ?_ _)); refine blk_far ?_ NB220_232.out _; (with_reducible repeat (first | refine blk_drewN ?_ _ | refine blk_drew ?_ | refine blk_alloc ?_ _)); refine blk_far ?_ NB220_232.out _; (with_reducible repeat (first | refine blk_drewN ?_ _ | refine blk_drew ?_ | refine blk_alloc ?_ _)); refine blk_far ?_ NB220_232.out _; (with_reducible repeat (first | refine blk_drewN ?_ _ | refine blk_drew ?_ | refine blk_alloc ?_ _)); exact BK220.out) hb); have n5_ := Aside0.mk (blk_below (g := gb232) (o := .cells #[.slice Ao28 t224.length co28, .int .i64 t227, .int .i64 t228, .int .i64 t229, .string t230, .int .i64 t231] 64 (0, 0)) (by (with_reducible repeat (first | refine blk_drewN ?_ _ | refine blk_drew ?_ | refine blk_alloc ?_ _)); refine blk_put (cs := #[.slice Ao28 t224.length co28, .int .i64 t227, .int .i64 t228, .int .i64 t229, .string t230, .int .i64 0]) ?_ 5 _ rfl; (with_reducible repeat (first | refine blk_drewN ?_ _ | refine blk_drew ?_ | refine blk_alloc ?_ _)); refine blk_put (cs := #[.slice Ao28 t224.length co28, .int .i64 t227, .int .i64 t228, .int .i64 t229, .string (⟨#[]⟩ : ByteArray), .int .i64 0]) ?_ 4 _ rfl; (with_reducible repeat (first | refine blk_drewN ?_ _ | refine blk_drew ?_ | refine blk_alloc ?_ _)); refine blk_put (cs := #[.slice Ao28 t224.length co28, .int .i64 t227, .int .i64 t228, .int .i64 0, .string (⟨#[]⟩ : ByteArray), .int .i64 0]) ?_ 3 _ rfl; (with_reducible repeat (first | refine blk_drewN ?_ _ | refine blk_drew ?_ | refine blk_alloc ?_ _)); refine blk_put (cs := #[.slice Ao28 t224.length co28, .int .i64 t227, .int .i64 0, .int .i64 0, .string (⟨#[]⟩ : ByteArray), .int .i64 0]) ?_ 2 _ rfl; (with_reducible repeat (first | refine blk_drewN ?_ _ | refine blk_drew ?_ | refine blk_alloc ?_ _)); refine blk_put (cs := #[.slice Ao28 t224.length co28, .int .i64 0, .int .i64 0, .int .i64 0, .string (⟨#[]⟩ : ByteArray), .int .i64 0]) ?_ 1 _ rfl; (with_reducible repeat (first | refine blk_drewN ?_ _ | refine blk_drew ?_ | refine blk_alloc ?_ _)); refine blk_put (cs := #[.slice none 0 0, .int .i64 0, .int .i64 0, .int .i64 0, .string (⟨#[]⟩ : ByteArray), .int .i64 0]) ?_ 0 _ rfl; (with_reducible repeat (first | refine blk_drewN ?_ _ | refine blk_drew ?_ | refine blk_alloc ?_ _)); exact BK232.out) hb); have n6_ := Aside0.mk (below_step (by repeat (first | (with_reducible first | exact HB.out | apply below_alloc | apply pw_below_drewN | apply below_drew1 | refine below_set ?_ GE220.out | refine below_set ?_ GE232.out) | exact HB.out)) hb); clear HO211; clear HO214; clear HO223; clear HO226; clear BK220; clear BK232; clear HB; have HO211 := n0_; have HO214 := n1_; have HO223 := n2_; have HO226 := n3_; have BK220 := n4_; have BK232 := n5_; have HB := n6_; clear n0_ n1_ n2_ n3_ n4_ n5_ n6_; (try clear hb); (try clear hb2); (try clear hk); (try clear hi)) | ((with_reducible refine gate_callee (f := 38) rfl ?_); refine goesL_ (some 33) rfl rfl Try.func38 (by kernel_rfl) rfl #[.slice A0 l0.length c0] rfl (by (try simp only [List.map_toArray, List.map_cons, List.map_nil]); first | done | rfl | (simp only [List.length_drop, List.length_take]; rfl)) ?_; (with_reducible refine (laws_toDueS.calls k _ _ l0 t234 _ ?side1 ?side2 A12.out).mono ?_); (case side1 => repeat (first | exact (Kd.C_below HR0.out HB.out) | (with_reducible refine Kd.C_alloc ?_ _) | (with_reducible refine Kd.C_drewN ?_ _) | (with_reducible refine Kd.C_drew ?_))); (case side2 => exact HC0.out); rintro e w33 ⟨v235, rfl, ho0, hb⟩; refine ⟨_, rfl, ?_⟩; have n0_ := Aside0.mk (Kd.R_elder' (by (with_reducible repeat (first | apply Kd.R_alloc | apply Kd.R_drewN | apply Kd.R_drew)); exact HO211.out) (Kd.R_base ho0) hb); have n1_ := Aside0.mk (Kd.R_elder' (by (with_reducible repeat (first | apply Kd.R_alloc | apply Kd.R_drewN | apply Kd.R_drew)); exact HO214.out) (Kd.R_base ho0) hb); have n2_ := Aside0.mk (Kd.R_elder' (by (with_reducible repeat (first | apply Kd.R_alloc | apply Kd.R_drewN | apply Kd.R_drew)); exact HO223.out) (Kd.R_base ho0) hb); have n3_ := Aside0.mk (Kd.R_elder' (by (with_reducible repeat (first | apply Kd.R_alloc | apply Kd.R_drewN | apply Kd.R_drew)); exact HO226.out) (Kd.R_base ho0) hb); have n4_ := Aside0.mk (Kd.R_lower (Kd.R_new' (Kd.R_new' (Kd.R_new' (Kd.R_new' ho0 (Kd.R_lt (by (with_reducible repeat (first | apply Kd.R_alloc | apply Kd.R_drewN | apply Kd.R_drew)); exact HO211.out))) (Kd.R_lt (by (with_reducible repeat (first | apply Kd.R_alloc | apply Kd.R_drewN | apply Kd.R_drew)); exact HO214.out))) (Kd.R_lt (by (with_reducible repeat (first | apply Kd.R_alloc | apply Kd.R_drewN | apply Kd.R_drew)); exact HO223.out))) (Kd.R_lt (by (with_reducible repeat (first | apply Kd.R_alloc | apply Kd.R_drewN | apply Kd.R_drew)); exact HO226.out))) (below_size (by repeat (first | (with_reducible first | exact HB.out | apply below_alloc | apply pw_below_drewN | apply below_drew1 | refine below_set ?_ GE220.out | refine below_set ?_ GE232.out) | exact HB.out)))); have n5_ := Aside0.mk (blk_below (g := gb220) (o := .cells #[.slice Ao22 t212.length co22, .int .i64 t215, .int .i64 t216, .int .i64 t217, .string t218, .int .i64 t219] 64 (0, 0)) (by (with_reducible repeat (first | refine blk_drewN ?_ _ | refine blk_drew ?_ | refine blk_alloc ?_ _)); exact BK220.out) hb); have n6_ := Aside0.mk (blk_below (g := gb232) (o := .cells #[.slice Ao28 t224.length co28, .int .i64 t227, .int .i64 t228, .int .i64 t229, .string t230, .int .i64 t231] 64 (0, 0)) (by (with_reducible repeat (first | refine blk_drewN ?_ _ | refine blk_drew ?_ | refine blk_alloc ?_ _)); exact BK232.out) hb); have n7_ := Aside0.mk (below_step (by repeat (first | (with_reducible first | exact HB.out | apply below_alloc | apply pw_below_drewN | apply below_drew1 | refine below_set ?_ GE220.out | refine below_set ?_ GE232.out) | exact HB.out)) hb); clear HO211; clear HO214; clear HO223; clear HO226; clear BK220; clear BK232; clear HB; have HO211 := n0_; have HO214 := n1_; have HO223 := n2_; have HO226 := n3_; have HO236 := n4_; have BK220 := n5_; have BK232 := n6_; have HB := n7_; clear n0_ n1_ n2_ n3_ n4_ n5_ n6_ n7_; (try clear hb); (try clear hb2); (try clear hk); (try clear hi); (try clear ho0); obtain ⟨Ao34, co34, eo34⟩ := Kd.R_slice HO236.out; subst eo34) | ((with_reducible refine gate_callee (f := 40) rfl ?_); refine goesL_ (some 34) rfl rfl Try.func40 (by kernel_rfl) rfl #[.slice Ao25 t221.length co25, .slice Ao34 t234.length co34] rfl (by (try simp only [List.map_toArray, List.map_cons, List.map_nil]); first | done | rfl | (simp only [List.length_drop, List.length_take]; rfl)) ?_; (with_reducible refine (laws_eqDueS.calls k _ _ t221 _ _ t234 true _ ?side1 ?side2 ?side3 ?side4 A13.out).mono ?_); (case side1 => repeat (first | exact (Kd.R_reads' HO223.out).2.2 | (with_reducible refine Kd.C_alloc ?_ _) | (with_reducible refine Kd.C_drewN ?_ _) | (with_reducible refine Kd.C_drew ?_))); (case side2 => exact (Kd.R_reads' HO223.out).2.1); (case side3 => repeat (first | exact (Kd.R_reads' HO236.out).2.2 | (with_reducible refine Kd.C_alloc ?_ _) | (with_reducible refine Kd.C_drewN ?_ _) | (with_reducible refine Kd.C_drew ?_))); (case side4 => exact (Kd.R_reads' HO236.out).2.1); rintro e w35 ⟨rfl, hb⟩; refine ⟨_, rfl, ?_⟩; have n0_ := Aside0.mk (Kd.R_below (by (with_reducible repeat (first | apply Kd.R_alloc | apply Kd.R_drewN | apply Kd.R_drew)); exact HO211.out) hb); have n1_ := Aside0.mk (Kd.R_below (by (with_reducible repeat (first | apply Kd.R_alloc | apply Kd.R_drewN | apply Kd.R_drew)); exact HO214.out) hb); have n2_ := Aside0.mk (Kd.R_below (by (with_reducible repeat (first | apply Kd.R_alloc | apply Kd.R_drewN | apply Kd.R_drew)); exact HO223.out) hb); have n3_ := Aside0.mk (Kd.R_below (by (with_reducible repeat (first | apply Kd.R_alloc | apply Kd.R_drewN | apply Kd.R_drew)); exact HO226.out) hb); have n4_ := Aside0.mk (Kd.R_below (by (with_reducible repeat (first | apply Kd.R_alloc | apply Kd.R_drewN | apply Kd.R_drew)); exact HO236.out) hb); have n5_ := Aside0.mk (blk_below (g := gb220) (o := .cells #[.slice Ao22 t212.length co22, .int .i64 t215, .int .i64 t216, .int .i64 t217, .string t218, .int .i64 t219] 64 (0, 0)) (by (with_reducible repeat (first | refine blk_drewN ?_ _ | refine blk_drew ?_ | refine blk_alloc ?_ _)); exact BK220.out) hb); have n6_ := Aside0.mk (blk_below (g := gb232) (o := .cells #[.slice Ao28 t224.length co28, .int .i64 t227, .int .i64 t228, .int .i64 t229, .string t230, .int .i64 t231] 64 (0, 0)) (by (with_reducible repeat (first | refine blk_drewN ?_ _ | refine blk_drew ?_ | refine blk_alloc ?_ _)); exact BK232.out) hb); have n7_ := Aside0.mk (below_step (by repeat (first | (with_reducible first | exact HB.out | apply below_alloc | apply pw_below_drewN | apply below_drew1 | refine below_set ?_ GE220.out | refine below_set ?_ GE232.out) | exact HB.out)) hb); clear HO211; clear HO214; clear HO223; clear HO226; clear HO236; clear BK220; clear BK232; clear HB; have HO211 := n0_; have HO214 := n1_; have HO223 := n2_; have HO226 := n3_; have HO236 := n4_; have BK220 := n5_; have BK232 := n6_; have HB := n7_; clear n0_ n1_ n2_ n3_ n4_ n5_ n6_ n7_; (try clear hb); (try clear hb2); (try clear hk); (try clear hi)) | ((with_reducible refine gate_callee (f := 44) rfl ?_); refine goesL_ (some 38) rfl rfl Try.func44 (by kernel_rfl) rfl #[.slice Ao25 t221.length co25, .int .i64 1] rfl (by (try simp only [List.map_toArray, List.map_cons, List.map_nil]); first | done | rfl | (simp only [List.length_drop, List.length_take]; rfl)) ?_; (with_reducible refine (laws_markDueS.calls k (fun k_ => some k_ = (.slice Ao25 t221.length co25 : Value).ownBlock) (.slice Ao25 t221.length co25) t221 1 t238 t239 w _ ?side1 ?side2 A15.out).mono ?_); (case side1 => repeat (first | (with_reducible first | exact HB.out | apply below_alloc | apply pw_below_drewN | apply below_drew1 | refine below_set ?_ GE220.out | refine below_set ?_ GE232.out) | exact HB.out)); (case side2 => exact Kd.R_tight rfl HO223.out); rintro e w36 ⟨rfl, hy0, hb, hkp⟩; refine ⟨_, rfl, ?_⟩; have n0_ := Aside0.mk (Kd.R_mono (ok' := fun k_ => some k_ ≠ (.slice Ao22 t212.length co22 : Value).ownBlock ∧ some k_ ≠ (.slice Ao25 t221.length co25 : Value).ownBlock ∧ some k_ ≠ (.slice Ao28 t224.length co28 : Value).ownBlock ∧ some k_ ≠ (.slice Ao34 t234.length co34 : Value).ownBlock) (Kd.R_keptB (HO211.out) hkp (fun k_ hk_ hs_ => (hk_.1.1.2) hs_)) (fun k_ hk_ => ⟨hk_.1.1.1.1.2, hk_.1.1.1.2, hk_.1.1.2, hk_.1.2⟩)); have n1_ := Aside0.mk (Kd.R_mono (ok' := fun k_ => some k_ ≠ (.slice Ao19 t209.length co19 : Value).ownBlock ∧ some k_ ≠ (.slice Ao25 t221.length co25 : Value).ownBlock ∧ some k_ ≠ (.slice Ao28 t224.length co28 : Value).ownBlock ∧ some k_ ≠ (.slice Ao34 t234.length co34 : Value).ownBlock) (Kd.R_keptB (HO214.out) hkp (fun k_ hk_ hs_ => (hk_.1.1.2) hs_)) (fun k_ hk_ => ⟨hk_.1.1.1.1.2, hk_.1.1.1.2, hk_.1.1.2, hk_.1.2⟩)); have n2_ := Aside0.mk (blk_kept (by (with_reducible repeat (first | refine blk_drewN ?_ _ | refine blk_drew ?_ | refine blk_alloc ?_ _)); exact BK220.out) hkp (fun hs_ => (fun e_ => (Kd.R_ne HO223.out BK220.out (by decide)) e_) hs_)); have n3_ := Aside0.mk (Kd.R_reok rfl hy0 (fun k_ e_ => HO223.out.1 k_ e_)); have n4_ := Aside0.mk (Kd.R_mono (ok' := fun k_ => some k_ ≠ (.slice Ao19 t209.length co19 : Value).ownBlock ∧ some k_ ≠ (.slice Ao22 t212.length co22 : Value).ownBlock ∧ some k_ ≠ (.slice Ao25 t221.length co25 : Value).ownBlock ∧ some k_ ≠ (.slice Ao34 t234.length co34 : Value).ownBlock) (Kd.R_keptB (HO226.out) hkp (fun k_ hk_ hs_ => (hk_.1.2) hs_)) (fun k_ hk_ => ⟨hk_.1.1.1.1.2, hk_.1.1.1.2, hk_.1.1.2, hk_.1.2⟩)); have n5_ := Aside0.mk (blk_kept (by (with_reducible repeat (first | refine blk_drewN ?_ _ | refine blk_drew ?_ | refine blk_alloc ?_ _)); exact BK232.out) hkp (fun hs_ => (fun e_ => (Kd.R_ne HO223.out BK232.out (by decide)) e_) hs_)); have n6_ := Aside0.mk (Kd.R_mono (ok' := fun k_ => some k_ ≠ (.slice Ao19 t209.length co19 : Value).ownBlock ∧ some k_ ≠ (.slice Ao22 t212.length co22 : Value).ownBlock ∧ some k_ ≠ (.slice Ao25 t221.length co25 : Value).ownBlock ∧ some k_ ≠ (.slice Ao28 t224.length co28 : Value).ownBlock) (Kd.R_keptB (HO236.out) hkp (fun k_ hk_ hs_ => (hk_.1.2) hs_)) (fun k_ hk_ => ⟨hk_.1.1.1.1.2, hk_.1.1.1.2, hk_.1.1.2, hk_.1.2⟩)); have n7_ := Aside0.mk (hb); clear HO211; clear HO214; clear BK220; clear HO223; clear HO226; clear BK232; clear HO236; clear HB; have HO211 := n0_; have HO214 := n1_; have BK220 := n2_; have HO223 := n3_; have HO226 := n4_; have BK232 := n5_; have HO236 := n6_; have HB := n7_; clear n0_ n1_ n2_ n3_ n4_ n5_ n6_ n7_; (try clear hb); (try clear hkp); (try clear hy0)))
        (try simp only [Act.put, List.setIfInBounds_toArray, List.set_cons_zero, List.set_cons_succ])
        go_cut [46] (fun v46 wc => ∃ (kq : Nat) (x46_15 : Bool), v46 = .bool x46_15 ∧ Aside0 (laws_FnExactQueueDrop.j0 kq l0 a1 x46_15 t212 t215 t216 t217 t218 t219 t224 t227 t228 t229 t230 t231 = some r) ∧ Aside0 (kq ≤ k) ∧ Aside0 (Kd.R k62 62 wc w.heap.size (fun k_ => some k_ ≠ ((.slice Ao28 t224.length co28) : Value).ownBlock) (.slice Ao22 t212.length co22) t212) ∧ Aside0 (Kd.R k62 62 wc w.heap.size (fun k_ => some k_ ≠ ((.slice Ao22 t212.length co22) : Value).ownBlock) (.slice Ao28 t224.length co28) t224) ∧ Aside0 (wc.heap[gb220]? = some (.cells #[(.slice Ao22 t212.length co22), .int .i64 t215, .int .i64 t216, .int .i64 t217, .string t218, .int .i64 t219] 64 (0, 0))) ∧ Aside0 (wc.heap[gb232]? = some (.cells #[(.slice Ao28 t224.length co28), .int .i64 t227, .int .i64 t228, .int .i64 t229, .string t230, .int .i64 t231] 64 (0, 0))) ∧ Aside0 (Below w.heap.size w wc))
        case first =>
          have H := HC16.out
          clear HC16
          by_cases c37 : t238 < 0
          · rw [if_pos c37] at H
            have c37b0 : decide (t238 < 0) = true := decide_eq_true c37
            clear c37
            (first | rw [c37b0] | (simp only [i64_w, i32_w]; rw [c37b0]) | skip)
            have H' := Aside0.mk H
            clear H
            go_wp2
            go_meet
            case rel => exact ⟨_, (true), (by first | rfl | (simp; done) | (simp [*]; done)), H', ⟨by first | omega | exact Nat.le_refl _⟩, ⟨by (with_reducible repeat (first | apply Kd.R_alloc | apply Kd.R_drewN | apply Kd.R_drew)); exact Kd.R_mono HO214.out (fun _ hk => hk.2.2.1)⟩, ⟨by (with_reducible repeat (first | apply Kd.R_alloc | apply Kd.R_drewN | apply Kd.R_drew)); exact Kd.R_mono HO226.out (fun _ hk => hk.2.1)⟩, ⟨by (with_reducible repeat (first | refine blk_drewN ?_ _ | refine blk_drew ?_ | refine blk_alloc ?_ _)); exact BK220.out⟩, ⟨by (with_reducible repeat (first | refine blk_drewN ?_ _ | refine blk_drew ?_ | refine blk_alloc ?_ _)); exact BK232.out⟩, ⟨by repeat (first | (with_reducible first | exact HB.out | apply below_alloc | apply pw_below_drewN | apply below_drew1 | refine below_set ?_ GE220.out | refine below_set ?_ GE232.out) | exact HB.out)⟩⟩
          · rw [if_neg c37] at H
            have c37b0 : decide (t238 < 0) = false := decide_eq_false c37
            clear c37
            (first | rw [c37b0] | (simp only [i64_w, i32_w]; rw [c37b0]) | skip)
            replace H := Option.bind_eq_some_iff.mp H
            obtain ⟨t240, A380, H⟩ := H
            replace H : (laws_FnExactQueueDrop.j0 k l0 a1 (!t240) t212 t215 t216 t217 t218 t219 t224 t227 t228 t229 t230 t231) = some r := H
            have A38 := Aside0.mk A380
            clear A380
            have H' := Aside0.mk H
            clear H
            have hnb39 := NB232_220.out
            have hnc39 := NB220_232.out
            have hcz40_0 : w36.cell? ⟨gb232, 0, none⟩ = some (.slice Ao28 t224.length co28) := (blk_cell BK232.out 0).trans rfl
            have hcz40_1 : w36.cell? ⟨gb232, 1, none⟩ = some (.int .i64 t227) := (blk_cell BK232.out 1).trans rfl
            have hcz40_2 : w36.cell? ⟨gb232, 2, none⟩ = some (.int .i64 t228) := (blk_cell BK232.out 2).trans rfl
            have hcz40_3 : w36.cell? ⟨gb232, 3, none⟩ = some (.int .i64 t229) := (blk_cell BK232.out 3).trans rfl
            have hcz40_4 : w36.cell? ⟨gb232, 4, none⟩ = some (.string t230) := (blk_cell BK232.out 4).trans rfl
            have hcz40_5 : w36.cell? ⟨gb232, 5, none⟩ = some (.int .i64 t231) := (blk_cell BK232.out 5).trans rfl
            have hfz40_0 := blk_frozen BK232.out 0
            have hfz40_1 := blk_frozen BK232.out 1
            have hfz40_2 := blk_frozen BK232.out 2
            have hfz40_3 := blk_frozen BK232.out 3
            have hfz40_4 := blk_frozen BK232.out 4
            have hfz40_5 := blk_frozen BK232.out 5
            have hcz41_0 : w36.cell? ⟨gb220, 0, none⟩ = some (.slice Ao22 t212.length co22) := (blk_cell BK220.out 0).trans rfl
            have hcz41_1 : w36.cell? ⟨gb220, 1, none⟩ = some (.int .i64 t215) := (blk_cell BK220.out 1).trans rfl
            have hcz41_2 : w36.cell? ⟨gb220, 2, none⟩ = some (.int .i64 t216) := (blk_cell BK220.out 2).trans rfl
            have hcz41_3 : w36.cell? ⟨gb220, 3, none⟩ = some (.int .i64 t217) := (blk_cell BK220.out 3).trans rfl
            have hcz41_4 : w36.cell? ⟨gb220, 4, none⟩ = some (.string t218) := (blk_cell BK220.out 4).trans rfl
            have hcz41_5 : w36.cell? ⟨gb220, 5, none⟩ = some (.int .i64 t219) := (blk_cell BK220.out 5).trans rfl
            have hfz41_0 := blk_frozen BK220.out 0
            have hfz41_1 := blk_frozen BK220.out 1
            have hfz41_2 := blk_frozen BK220.out 2
            have hfz41_3 := blk_frozen BK220.out 3
            have hfz41_4 := blk_frozen BK220.out 4
            have hfz41_5 := blk_frozen BK220.out 5
            go_wp2_with (first | (go_at_call 43; (with_reducible refine (laws_eqQueueOut.calls k _ _ t224 t227 t228 t229 t230 t231 _ _ t212 t215 t216 t217 t218 t219 t240 _ ?side1 ?side2 ?side3 ?side4 A38.out).mono ?_); (case side1 => repeat (first | exact (Kd.R_reads' HO226.out).2.2 | (with_reducible refine Kd.C_alloc ?_ _) | (with_reducible refine Kd.C_drewN ?_ _) | (with_reducible refine Kd.C_drew ?_))); (case side2 => exact (Kd.R_reads' HO226.out).2.1); (case side3 => repeat (first | exact (Kd.R_reads' HO214.out).2.2 | (with_reducible refine Kd.C_alloc ?_ _) | (with_reducible refine Kd.C_drewN ?_ _) | (with_reducible refine Kd.C_drew ?_))); (case side4 => exact (Kd.R_reads' HO214.out).2.1); rintro e w42 ⟨rfl, hb⟩; have n0_ := Aside0.mk (Kd.R_below (by (with_reducible repeat (first | apply Kd.R_alloc | apply Kd.R_drewN | apply Kd.R_drew)); exact HO211.out) hb); have n1_ := Aside0.mk (Kd.R_below (by (with_reducible repeat (first | apply Kd.R_alloc | apply Kd.R_drewN | apply Kd.R_drew)); exact HO214.out) hb); have n2_ := Aside0.mk (Kd.R_below (by (with_reducible repeat (first | apply Kd.R_alloc | apply Kd.R_drewN | apply Kd.R_drew)); exact HO223.out) hb); have n3_ := Aside0.mk (Kd.R_below (by (with_reducible repeat (first | apply Kd.R_alloc | apply Kd.R_drewN | apply Kd.R_drew)); exact HO226.out) hb); have n4_ := Aside0.mk (Kd.R_below (by (with_reducible repeat (first | apply Kd.R_alloc | apply Kd.R_drewN | apply Kd.R_drew)); exact HO236.out) hb); have n5_ := Aside0.mk (blk_below (g := gb220) (o := .cells #[.slice Ao22 t212.length co22, .int .i64 t215, .int .i64 t216, .int .i64 t217, .string t218, .int .i64 t219] 64 (0, 0)) (by (with_reducible repeat (first | refine blk_drewN ?_ _ | refine blk_drew ?_ | refine blk_alloc ?_ _)); exact BK220.out) hb); have n6_ := Aside0.mk (blk_below (g := gb232) (o := .cells #[.slice Ao28 t224.length co28, .int .i64 t227, .int .i64 t228, .int .i64 t229, .string t230, .int .i64 t231] 64 (0, 0)) (by (with_reducible repeat (first | refine blk_drewN ?_ _ | refine blk_drew ?_ | refine blk_alloc ?_ _)); exact BK232.out) hb); have n7_ := Aside0.mk (below_step (by repeat (first | (with_reducible first | exact HB.out | apply below_alloc | apply pw_below_drewN | apply below_drew1 | refine below_set ?_ GE220.out | refine below_set ?_ GE232.out) | exact HB.out)) hb); clear HO211; clear HO214; clear HO223; clear HO226; clear HO236; clear BK220; clear BK232; clear HB; have HO211 := n0_; have HO214 := n1_; have HO223 := n2_; have HO226 := n3_; have HO236 := n4_; have BK220 := n5_; have BK232 := n6_; have HB := n7_; clear n0_ n1_ n2_ n3_ n4_ n5_ n6_ n7_; (try clear hb); (try clear hb2); (try clear hk); (try clear hi)))
            go_meet
            case rel => exact ⟨_, (!t240), (by first | rfl | (simp; done) | (simp [*]; done)), H', ⟨by first | omega | exact Nat.le_refl _⟩, ⟨by (with_reducible repeat (first | apply Kd.R_alloc | apply Kd.R_drewN | apply Kd.R_drew)); exact Kd.R_mono HO214.out (fun _ hk => hk.2.2.1)⟩, ⟨by (with_reducible repeat (first | apply Kd.R_alloc | apply Kd.R_drewN | apply Kd.R_drew)); exact Kd.R_mono HO226.out (fun _ hk => hk.2.1)⟩, ⟨by (with_reducible repeat (first | refine blk_drewN ?_ _ | refine blk_drew ?_ | refine blk_alloc ?_ _)); exact BK220.out⟩, ⟨by (with_reducible repeat (first | refine blk_drewN ?_ _ | refine blk_drew ?_ | refine blk_alloc ?_ _)); exact BK232.out⟩, ⟨by repeat (first | (with_reducible first | exact HB.out | apply below_alloc | apply pw_below_drewN | apply below_drew1 | refine below_set ?_ GE220.out | refine below_set ?_ GE232.out) | exact HB.out)⟩⟩
        case rest =>
          clear HC16
          try clear c1
          try clear c2
          try clear p2
          try clear c3
          try clear c4
          try clear c4b0
          try clear c9
          try clear c11
          try clear c14
          try clear c29
          try clear c36
          try clear c37
          try clear c37b0
          try clear c38
          try clear c39
          try clear c40
          try clear hcz23_0
          try clear hcz23_1
          try clear hcz23_2
          try clear hcz23_3
          try clear hcz23_4
          try clear hcz23_5
          try clear hcz30_0
          try clear hcz30_1
          try clear hcz30_2
          try clear hcz30_3
          try clear hcz30_4
          try clear hcz30_5
          try clear hcz31_0
          try clear hcz31_1
          try clear hcz31_2
          try clear hcz31_3
          try clear hcz31_4
          try clear hcz31_5
          try clear hcz40_0
          try clear hcz40_1
          try clear hcz40_2
          try clear hcz40_3
          try clear hcz40_4
          try clear hcz40_5
          try clear hcz41_0
          try clear hcz41_1
          try clear hcz41_2
          try clear hcz41_3
          try clear hcz41_4
          try clear hcz41_5
          try clear hfz23_0
          try clear hfz23_1
          try clear hfz23_2
          try clear hfz23_3
          try clear hfz23_4
          try clear hfz23_5
          try clear hfz30_0
          try clear hfz30_1
          try clear hfz30_2
          try clear hfz30_3
          try clear hfz30_4
          try clear hfz30_5
          try clear hfz31_0
          try clear hfz31_1
          try clear hfz31_2
          try clear hfz31_3
          try clear hfz31_4
          try clear hfz31_5
          try clear hfz40_0
          try clear hfz40_1
          try clear hfz40_2
          try clear hfz40_3
          try clear hfz40_4
          try clear hfz40_5
          try clear hfz41_0
          try clear hfz41_1
          try clear hfz41_2
          try clear hfz41_3
          try clear hfz41_4
          try clear hfz41_5
          obtain ⟨kq, x46_15, rfl, HA, HJ15, HO_221000, HO_233000, BK220, BK232, HB⟩ := hcut
          cases kq with
          | zero => exact absurd HA.out (by simp [laws_FnExactQueueDrop.j0])
          | succ kj15 =>
            have H := HA.out
            clear HA
            simp only [laws_FnExactQueueDrop.j0] at H
            by_cases c43 : x46_15 = true
            · subst c43
              have H1 : (some false) = some r := by rw [if_pos rfl] at H; exact H
              clear H
              have H := H1
              clear H1
              exact absurd ((Option.some.inj H).trans HT_.out) (by decide)
            · replace c43 := Bool.eq_false_iff.mpr c43
              subst c43
              have H1 : ((laws_markQueueOut.f kj15 t224 t227 t228 t229 t230 t231 1).bind fun bt241 => ((laws_heldQueueOut.f kj15 bt241.2 t227 t228 t229 t230 t231 1).bind fun t243 => (if t243 < 0 then (some false) else (if t243 = bt241.1 then ((laws_toDueS.f kj15 l0).bind fun t244 => ((impl_QueueDrop.f kj15 t244 a1).bind fun bt247 => ((laws_eqQueueOut.f kj15 bt247.1 bt247.2.1 bt247.2.2.1 bt247.2.2.2.1 bt247.2.2.2.2.1 bt247.2.2.2.2.2 t212 t215 t216 t217 t218 t219).bind fun t256 => (if t256 = true then ((laws_heldQueueOut.f kj15 bt241.2 t227 t228 t229 t230 t231 1).bind fun t257 => (if t257 < 0 then (some false) else (if t257 = bt241.1 then (some true) else (some false)))) else (some false))))) else (some false))))) = some r := by rw [if_neg (show ¬ (false = true) by decide)] at H; exact H
              clear H
              have H := H1
              clear H1
              replace H := Option.bind_eq_some_iff.mp H
              obtain ⟨⟨t241, t242⟩, A440, H⟩ := H
              replace H : ((laws_heldQueueOut.f kj15 t242 t227 t228 t229 t230 t231 1).bind fun t243 => (if t243 < 0 then (some false) else (if t243 = t241 then ((laws_toDueS.f kj15 l0).bind fun t244 => ((impl_QueueDrop.f kj15 t244 a1).bind fun bt247 => ((laws_eqQueueOut.f kj15 bt247.1 bt247.2.1 bt247.2.2.1 bt247.2.2.2.1 bt247.2.2.2.2.1 bt247.2.2.2.2.2 t212 t215 t216 t217 t218 t219).bind fun t256 => (if t256 = true then ((laws_heldQueueOut.f kj15 t242 t227 t228 t229 t230 t231 1).bind fun t257 => (if t257 < 0 then (some false) else (if t257 = t241 then (some true) else (some false)))) else (some false))))) else (some false)))) = some r := H
              have A44 := Aside0.mk A440
              clear A440
              replace H := Option.bind_eq_some_iff.mp H
              obtain ⟨t243, A450, H⟩ := H
              replace H : (if t243 < 0 then (some false) else (if t243 = t241 then ((laws_toDueS.f kj15 l0).bind fun t244 => ((impl_QueueDrop.f kj15 t244 a1).bind fun bt247 => ((laws_eqQueueOut.f kj15 bt247.1 bt247.2.1 bt247.2.2.1 bt247.2.2.2.1 bt247.2.2.2.2.1 bt247.2.2.2.2.2 t212 t215 t216 t217 t218 t219).bind fun t256 => (if t256 = true then ((laws_heldQueueOut.f kj15 t242 t227 t228 t229 t230 t231 1).bind fun t257 => (if t257 < 0 then (some false) else (if t257 = t241 then (some true) else (some false)))) else (some false))))) else (some false))) = some r := H
              have A45 := Aside0.mk A450
              clear A450
              by_cases c46 : t243 < 0
              · rw [if_pos c46] at H
                have c46b0 : decide (t243 < 0) = true := decide_eq_true c46
                clear c46
                exact absurd ((Option.some.inj H).trans HT_.out) (by decide)
              · rw [if_neg c46] at H
                have c46b0 : decide (t243 < 0) = false := decide_eq_false c46
                clear c46
                by_cases c47 : t243 = t241
                · rw [if_pos c47] at H
                  have c47b0 : (t243 == t241) = true := beq_iff_eq.mpr c47
                  have c47b1 : (t243 != t241) = false := bne_eq_false_iff_eq.mpr c47
                  clear c47
                  replace H := Option.bind_eq_some_iff.mp H
                  obtain ⟨t244, A480, H⟩ := H
                  replace H : ((impl_QueueDrop.f kj15 t244 a1).bind fun bt247 => ((laws_eqQueueOut.f kj15 bt247.1 bt247.2.1 bt247.2.2.1 bt247.2.2.2.1 bt247.2.2.2.2.1 bt247.2.2.2.2.2 t212 t215 t216 t217 t218 t219).bind fun t256 => (if t256 = true then ((laws_heldQueueOut.f kj15 t242 t227 t228 t229 t230 t231 1).bind fun t257 => (if t257 < 0 then (some false) else (if t257 = t241 then (some true) else (some false)))) else (some false)))) = some r := H
                  have A48 := Aside0.mk A480
                  clear A480
                  replace H := Option.bind_eq_some_iff.mp H
                  obtain ⟨⟨t247, t250, t251, t252, t253, t254⟩, A490, H⟩ := H
                  replace H : ((laws_eqQueueOut.f kj15 t247 t250 t251 t252 t253 t254 t212 t215 t216 t217 t218 t219).bind fun t256 => (if t256 = true then ((laws_heldQueueOut.f kj15 t242 t227 t228 t229 t230 t231 1).bind fun t257 => (if t257 < 0 then (some false) else (if t257 = t241 then (some true) else (some false)))) else (some false))) = some r := H
                  have A49 := Aside0.mk A490
                  clear A490
                  replace H := Option.bind_eq_some_iff.mp H
                  obtain ⟨t256, A500, H⟩ := H
                  replace H : (if t256 = true then ((laws_heldQueueOut.f kj15 t242 t227 t228 t229 t230 t231 1).bind fun t257 => (if t257 < 0 then (some false) else (if t257 = t241 then (some true) else (some false)))) else (some false)) = some r := H
                  have A50 := Aside0.mk A500
                  clear A500
                  by_cases c51 : t256 = true
                  · subst c51
                    have H1 : ((laws_heldQueueOut.f kj15 t242 t227 t228 t229 t230 t231 1).bind fun t257 => (if t257 < 0 then (some false) else (if t257 = t241 then (some true) else (some false)))) = some r := by rw [if_pos rfl] at H; exact H
                    clear H
                    have H := H1
                    clear H1
                    replace H := Option.bind_eq_some_iff.mp H
                    obtain ⟨t257, A520, H⟩ := H
                    replace H : (if t257 < 0 then (some false) else (if t257 = t241 then (some true) else (some false))) = some r := H
                    have A52 := Aside0.mk A520
                    clear A520
                    by_cases c53 : t257 < 0
                    · rw [if_pos c53] at H
                      have c53b0 : decide (t257 < 0) = true := decide_eq_true c53
                      clear c53
                      exact absurd ((Option.some.inj H).trans HT_.out) (by decide)
                    · rw [if_neg c53] at H
                      have c53b0 : decide (t257 < 0) = false := decide_eq_false c53
                      clear c53
                      by_cases c54 : t257 = t241
                      · rw [if_pos c54] at H
                        have c54b0 : (t257 == t241) = true := beq_iff_eq.mpr c54
                        have c54b1 : (t257 != t241) = false := bne_eq_false_iff_eq.mpr c54
                        clear c54
                        obtain rfl := Option.some.inj H
                        have hnb55 := NB232_220.out
                        have hnc55 := NB220_232.out
                        have hcz56_0 : wc.cell? ⟨gb232, 0, none⟩ = some (.slice Ao28 t224.length co28) := (blk_cell BK232.out 0).trans rfl
                        have hcz56_1 : wc.cell? ⟨gb232, 1, none⟩ = some (.int .i64 t227) := (blk_cell BK232.out 1).trans rfl
                        have hcz56_2 : wc.cell? ⟨gb232, 2, none⟩ = some (.int .i64 t228) := (blk_cell BK232.out 2).trans rfl
                        have hcz56_3 : wc.cell? ⟨gb232, 3, none⟩ = some (.int .i64 t229) := (blk_cell BK232.out 3).trans rfl
                        have hcz56_4 : wc.cell? ⟨gb232, 4, none⟩ = some (.string t230) := (blk_cell BK232.out 4).trans rfl
                        have hcz56_5 : wc.cell? ⟨gb232, 5, none⟩ = some (.int .i64 t231) := (blk_cell BK232.out 5).trans rfl
                        have hfz56_0 := blk_frozen BK232.out 0
                        have hfz56_1 := blk_frozen BK232.out 1
                        have hfz56_2 := blk_frozen BK232.out 2
                        have hfz56_3 := blk_frozen BK232.out 3
                        have hfz56_4 := blk_frozen BK232.out 4
                        have hfz56_5 := blk_frozen BK232.out 5
                        go_wp2_with (first | ((with_reducible refine gate_callee (f := 45) rfl ?_); refine goesL_ (some 49) rfl rfl Try.func45 (by kernel_rfl) rfl #[.agg #[.slice Ao28 t224.length co28, .int .i64 t227, .int .i64 t228, .int .i64 t229, .string t230, .int .i64 t231], .int .i64 1] rfl (by (try simp only [List.map_toArray, List.map_cons, List.map_nil]); first | done | rfl | (simp only [List.length_drop, List.length_take]; rfl)) ?_; (with_reducible refine (laws_markQueueOut.calls kj15 (fun k_ => some k_ = (.slice Ao28 t224.length co28 : Value).ownBlock) (.slice Ao28 t224.length co28) t224 t227 t228 t229 t230 t231 1 t241 t242 w _ ?side1 ?side2 A44.out).mono ?_); (case side1 => repeat (first | (with_reducible first | exact HB.out | apply below_alloc | apply pw_below_drewN | apply below_drew1 | refine below_set ?_ GE220.out | refine below_set ?_ GE232.out) | exact HB.out)); (case side2 => exact Kd.R_tight rfl HO_233000.out); rintro e w57 ⟨rfl, hy0, hb, hkp⟩; refine ⟨_, rfl, ?_⟩; have n0_ := Aside0.mk (Kd.R_mono (ok' := fun k_ => some k_ ≠ (.slice Ao28 t224.length co28 : Value).ownBlock) (Kd.R_keptB (HO_221000.out) hkp (fun k_ hk_ hs_ => (hk_) hs_)) (fun k_ hk_ => hk_.1)); have n1_ := Aside0.mk (Kd.R_reok rfl hy0 (fun k_ e_ => HO_233000.out.1 k_ e_)); have n2_ := Aside0.mk (blk_kept (by (with_reducible repeat (first | refine blk_drewN ?_ _ | refine blk_drew ?_ | refine blk_alloc ?_ _)); exact BK220.out) hkp (fun hs_ => (fun e_ => (Kd.R_ne HO_233000.out BK220.out (by decide)) e_) hs_)); have n3_ := Aside0.mk (blk_kept (by (with_reducible repeat (first | refine blk_drewN ?_ _ | refine blk_drew ?_ | refine blk_alloc ?_ _)); exact BK232.out) hkp (fun hs_ => (fun e_ => (Kd.R_ne HO_233000.out BK232.out (by decide)) e_) hs_)); have n4_ := Aside0.mk (hb); clear HO_221000; clear HO_233000; clear BK220; clear BK232; clear HB; have HO_221000 := n0_; have HO_233000 := n1_; have BK220 := n2_; have BK232 := n3_; have HB := n4_; clear n0_ n1_ n2_ n3_ n4_; (try clear hb); (try clear hkp); (try clear hy0); have hcz58_0 : w57.cell? ⟨gb232, 0, none⟩ = some (.slice Ao28 t224.length co28) := (blk_cell BK232.out 0).trans rfl; have hcz58_1 : w57.cell? ⟨gb232, 1, none⟩ = some (.int .i64 t227) := (blk_cell BK232.out 1).trans rfl; have hcz58_2 : w57.cell? ⟨gb232, 2, none⟩ = some (.int .i64 t228) := (blk_cell BK232.out 2).trans rfl; have hcz58_3 : w57.cell? ⟨gb232, 3, none⟩ = some (.int .i64 t229) := (blk_cell BK232.out 3).trans rfl; have hcz58_4 : w57.cell? ⟨gb232, 4, none⟩ = some (.string t230) := (blk_cell BK232.out 4).trans rfl; have hcz58_5 : w57.cell? ⟨gb232, 5, none⟩ = some (.int .i64 t231) := (blk_cell BK232.out 5).trans rfl; have hfz58_0 := blk_frozen BK232.out 0; have hfz58_1 := blk_frozen BK232.out 1; have hfz58_2 := blk_frozen BK232.out 2; have hfz58_3 := blk_frozen BK232.out 3; have hfz58_4 := blk_frozen BK232.out 4; have hfz58_5 := blk_frozen BK232.out 5) | ((with_reducible refine gate_callee (f := 46) rfl ?_); refine goesL_ (some 52) rfl rfl Try.func46 (by kernel_rfl) rfl #[.agg #[.slice Ao28 t242.length co28, .int .i64 t227, .int .i64 t228, .int .i64 t229, .string t230, .int .i64 t231], .int .i64 1] rfl (by (try simp only [List.map_toArray, List.map_cons, List.map_nil]); first | done | (rw [show t242.length = t224.length from (Kd.R_reads' HO_233000.out).1.symm] <;> rfl) | rfl | (simp only [List.length_drop, List.length_take]; rfl)) ?_; (with_reducible refine (laws_heldQueueOut.calls kj15 _ _ t242 t227 t228 t229 t230 t231 1 t243 _ ?side1 ?side2 A45.out).mono ?_); (case side1 => repeat (first | exact (Kd.R_reads' HO_233000.out).2.2 | (with_reducible refine Kd.C_alloc ?_ _) | (with_reducible refine Kd.C_drewN ?_ _) | (with_reducible refine Kd.C_drew ?_))); (case side2 => rw [show t242.length = t224.length from (Kd.R_reads' HO_233000.out).1.symm]; exact (Kd.R_reads' HO_233000.out).2.1); rintro e w59 ⟨rfl, hb⟩; refine ⟨_, rfl, ?_⟩; have n0_ := Aside0.mk (Kd.R_below (by (with_reducible repeat (first | apply Kd.R_alloc | apply Kd.R_drewN | apply Kd.R_drew)); exact HO_221000.out) hb); have n1_ := Aside0.mk (Kd.R_below (by (with_reducible repeat (first | apply Kd.R_alloc | apply Kd.R_drewN | apply Kd.R_drew)); exact HO_233000.out) hb); have n2_ := Aside0.mk (blk_below (g := gb220) (o := .cells #[.slice Ao22 t212.length co22, .int .i64 t215, .int .i64 t216, .int .i64 t217, .string t218, .int .i64 t219] 64 (0, 0)) (by (with_reducible repeat (first | refine blk_drewN ?_ _ | refine blk_drew ?_ | refine blk_alloc ?_ _)); exact BK220.out) hb); have n3_ := Aside0.mk (blk_below (g := gb232) (o := .cells #[.slice Ao28 t224.length co28, .int .i64 t227, .int .i64 t228, .int .i64 t229, .string t230, .int .i64 t231] 64 (0, 0)) (by (with_reducible repeat (first | refine blk_drewN ?_ _ | refine blk_drew ?_ | refine blk_alloc ?_ _)); exact BK232.out) hb); have n4_ := Aside0.mk (below_step (by repeat (first | (with_reducible first | exact HB.out | apply below_alloc | apply pw_below_drewN | apply below_drew1 | refine below_set ?_ GE220.out | refine below_set ?_ GE232.out) | exact HB.out)) hb); clear HO_221000; clear HO_233000; clear BK220; clear BK232; clear HB; have HO_221000 := n0_; have HO_233000 := n1_; have BK220 := n2_; have BK232 := n3_; have HB := n4_; clear n0_ n1_ n2_ n3_ n4_; (try clear hb); (try clear hb2); (try clear hk); (try clear hi)) | ((with_reducible refine gate_callee (f := 38) rfl ?_); refine goesL_ (some 59) rfl rfl Try.func38 (by kernel_rfl) rfl #[.slice A0 l0.length c0] rfl (by (try simp only [List.map_toArray, List.map_cons, List.map_nil]); first | done | rfl | (simp only [List.length_drop, List.length_take]; rfl)) ?_; (with_reducible refine (laws_toDueS.calls kj15 _ _ l0 t244 _ ?side1 ?side2 A48.out).mono ?_); (case side1 => repeat (first | exact (Kd.C_below HR0.out HB.out) | (with_reducible refine Kd.C_alloc ?_ _) | (with_reducible refine Kd.C_drewN ?_ _) | (with_reducible refine Kd.C_drew ?_))); (case side2 => exact HC0.out); rintro e w60 ⟨v245, rfl, ho0, hb⟩; refine ⟨_, rfl, ?_⟩; have n0_ := Aside0.mk (Kd.R_elder' (by (with_reducible repeat (first | apply Kd.R_alloc | apply Kd.R_drewN | apply Kd.R_drew)); exact HO_221000.out) (Kd.R_base ho0) hb); have n1_ := Aside0.mk (Kd.R_elder' (by (with_reducible repeat (first | apply Kd.R_alloc | apply Kd.R_drewN | apply Kd.R_drew)); exact HO_233000.out) (Kd.R_base ho0) hb); have n2_ := Aside0.mk (Kd.R_lower (Kd.R_new' (Kd.R_new' ho0 (Kd.R_lt (by (with_reducible repeat (first | apply Kd.R_alloc | apply Kd.R_drewN | apply Kd.R_drew)); exact HO_221000.out))) (Kd.R_lt (by (with_reducible repeat (first | apply Kd.R_alloc | apply Kd.R_drewN | apply Kd.R_drew)); exact HO_233000.out))) (below_size (by repeat (first | (with_reducible first | exact HB.out | apply below_alloc | apply pw_below_drewN | apply below_drew1 | refine below_set ?_ GE220.out | refine below_set ?_ GE232.out) | exact HB.out)))); have n3_ := Aside0.mk (blk_below (g := gb220) (o := .cells #[.slice Ao22 t212.length co22, .int .i64 t215, .int .i64 t216, .int .i64 t217, .string t218, .int .i64 t219] 64 (0, 0)) (by (with_reducible repeat (first | refine blk_drewN ?_ _ | refine blk_drew ?_ | refine blk_alloc ?_ _)); exact BK220.out) hb); have n4_ := Aside0.mk (blk_below (g := gb232) (o := .cells #[.slice Ao28 t224.length co28, .int .i64 t227, .int .i64 t228, .int .i64 t229, .string t230, .int .i64 t231] 64 (0, 0)) (by (with_reducible repeat (first | refine blk_drewN ?_ _ | refine blk_drew ?_ | refine blk_alloc ?_ _)); exact BK232.out) hb); have n5_ := Aside0.mk (below_step (by repeat (first | (with_reducible first | exact HB.out | apply below_alloc | apply pw_below_drewN | apply below_drew1 | refine below_set ?_ GE220.out | refine below_set ?_ GE232.out) | exact HB.out)) hb); clear HO_221000; clear HO_233000; clear BK220; clear BK232; clear HB; have HO_221000 := n0_; have HO_233000 := n1_; have HO246 := n2_; have BK220 := n3_; have BK232 := n4_; have HB := n5_; clear n0_ n1_ n2_ n3_ n4_ n5_; (try clear hb); (try clear hb2); (try clear hk); (try clear hi); (try clear ho0); obtain ⟨Ao61, co61, eo61⟩ := Kd.R_slice HO246.out; subst eo61) | ((with_reducible refine gate_callee (f := 48) rfl ?_); refine goesL_ (some 61) rfl rfl Try.func48 (by kernel_rfl) rfl #[.slice Ao61 t244.length co61, .int .i64 a1] rfl (by (try simp only [List.map_toArray, List.map_cons, List.map_nil]); first | done | rfl | (simp only [List.length_drop, List.length_take]; rfl)) ?_; (with_reducible refine (impl_QueueDrop.calls kj15 _ _ t244 a1 t247 t250 t251 t252 t253 t254 _ ?side1 ?side2 A49.out).mono ?_); (case side1 => repeat (first | exact (Kd.R_reads' HO246.out).2.2 | (with_reducible refine Kd.C_alloc ?_ _) | (with_reducible refine Kd.C_drewN ?_ _) | (with_reducible refine Kd.C_drew ?_))); (case side2 => exact (Kd.R_reads' HO246.out).2.1); rintro e w62 ⟨v248, rfl, ho0, hb⟩; refine ⟨_, rfl, ?_⟩; have n0_ := Aside0.mk (Kd.R_elder' (by (with_reducible repeat (first | apply Kd.R_alloc | apply Kd.R_drewN | apply Kd.R_drew)); exact HO_221000.out) (Kd.R_base ho0) hb); have n1_ := Aside0.mk (Kd.R_elder' (by (with_reducible repeat (first | apply Kd.R_alloc | apply Kd.R_drewN | apply Kd.R_drew)); exact HO_233000.out) (Kd.R_base ho0) hb); have n2_ := Aside0.mk (Kd.R_elder' (by (with_reducible repeat (first | apply Kd.R_alloc | apply Kd.R_drewN | apply Kd.R_drew)); exact HO246.out) (Kd.R_base ho0) hb); have n3_ := Aside0.mk (Kd.R_lower (Kd.R_new' (Kd.R_new' (Kd.R_new' ho0 (Kd.R_lt (by (with_reducible repeat (first | apply Kd.R_alloc | apply Kd.R_drewN | apply Kd.R_drew)); exact HO_221000.out))) (Kd.R_lt (by (with_reducible repeat (first | apply Kd.R_alloc | apply Kd.R_drewN | apply Kd.R_drew)); exact HO_233000.out))) (Kd.R_lt (by (with_reducible repeat (first | apply Kd.R_alloc | apply Kd.R_drewN | apply Kd.R_drew)); exact HO246.out))) (below_size (by repeat (first | (with_reducible first | exact HB.out | apply below_alloc | apply pw_below_drewN | apply below_drew1 | refine below_set ?_ GE220.out | refine below_set ?_ GE232.out) | exact HB.out)))); have n4_ := Aside0.mk (blk_below (g := gb220) (o := .cells #[.slice Ao22 t212.length co22, .int .i64 t215, .int .i64 t216, .int .i64 t217, .string t218, .int .i64 t219] 64 (0, 0)) (by (with_reducible repeat (first | refine blk_drewN ?_ _ | refine blk_drew ?_ | refine blk_alloc ?_ _)); exact BK220.out) hb); have n5_ := Aside0.mk (blk_below (g := gb232) (o := .cells #[.slice Ao28 t224.length co28, .int .i64 t227, .int .i64 t228, .int .i64 t229, .string t230, .int .i64 t231] 64 (0, 0)) (by (with_reducible repeat (first | refine blk_drewN ?_ _ | refine blk_drew ?_ | refine blk_alloc ?_ _)); exact BK232.out) hb); have n6_ := Aside0.mk (below_step (by repeat (first | (with_reducible first | exact HB.out | apply below_alloc | apply pw_below_drewN | apply below_drew1 | refine below_set ?_ GE220.out | refine below_set ?_ GE232.out) | exact HB.out)) hb); clear HO_221000; clear HO_233000; clear HO246; clear BK220; clear BK232; clear HB; have HO_221000 := n0_; have HO_233000 := n1_; have HO246 := n2_; have HO249 := n3_; have BK220 := n4_; have BK232 := n5_; have HB := n6_; clear n0_ n1_ n2_ n3_ n4_ n5_ n6_; (try clear hb); (try clear hb2); (try clear hk); (try clear hi); (try clear ho0)) | ((with_reducible refine gate_dst (N := 12) rfl ?_); refine box_event ?hg (N := 12) ?hd (cs := #[.slice none 0 0, .int .i64 0, .int .i64 0, .int .i64 0, .string (⟨#[]⟩ : ByteArray), .int .i64 0]) (t := 64) ?hr ?_; (case hd => rfl); (case hg => rfl); (case hr => first | (go_simp; done) | (go_simp; rfl)); intro gb255 hg w63 hbox hb; have n0_ := Aside0.mk (Kd.R_below (by (with_reducible repeat (first | apply Kd.R_alloc | apply Kd.R_drewN | apply Kd.R_drew)); exact HO_221000.out) hb); have n1_ := Aside0.mk (Kd.R_below (by (with_reducible repeat (first | apply Kd.R_alloc | apply Kd.R_drewN | apply Kd.R_drew)); exact HO_233000.out) hb); have n2_ := Aside0.mk (Kd.R_below (by (with_reducible repeat (first | apply Kd.R_alloc | apply Kd.R_drewN | apply Kd.R_drew)); exact HO246.out) hb); have n3_ := Aside0.mk (Kd.R_below (by (with_reducible repeat (first | apply Kd.R_alloc | apply Kd.R_drewN | apply Kd.R_drew)); exact HO249.out) hb); have n4_ := Aside0.mk (blk_below (g := gb220) (o := .cells #[.slice Ao22 t212.length co22, .int .i64 t215, .int .i64 t216, .int .i64 t217, .string t218, .int .i64 t219] 64 (0, 0)) (by (with_reducible repeat (first | refine blk_drewN ?_ _ | refine blk_drew ?_ | refine blk_alloc ?_ _)); exact BK220.out) hb); have n5_ := Aside0.mk (blk_below (g := gb232) (o := .cells #[.slice Ao28 t224.length co28, .int .i64 t227, .int .i64 t228, .int .i64 t229, .string t230, .int .i64 t231] 64 (0, 0)) (by (with_reducible repeat (first | refine blk_drewN ?_ _ | refine blk_drew ?_ | refine blk_alloc ?_ _)); exact BK232.out) hb); have n6_ := Aside0.mk (below_step (by repeat (first | (with_reducible first | exact HB.out | apply below_alloc | apply pw_below_drewN | apply below_drew1 | refine below_set ?_ GE220.out | refine below_set ?_ GE232.out) | exact HB.out)) hb); have n7_ := Aside0.mk (hbox); have n8_ := Aside0.mk ((by rw [hg]; exact (below_size (by repeat (first | (with_reducible first | exact HB.out | apply below_alloc | apply pw_below_drewN | apply below_drew1 | refine below_set ?_ GE220.out | refine below_set ?_ GE232.out) | exact HB.out))) : w.heap.size ≤ gb255)); have n9_ := Aside0.mk ((by rw [hg]; exact (below_size (by repeat (first | (with_reducible first | exact HB.out | apply below_alloc | apply pw_below_drewN | apply below_drew1 | refine below_set ?_ GE220.out | refine below_set ?_ GE232.out) | exact HB.out))) : w.heap.size ≤ gb255)); have n10_ := Aside0.mk ((by rw [hg]; exact Nat.ne_of_lt (blk_lt (g := gb220) (o := .cells #[.slice Ao22 t212.length co22, .int .i64 t215, .int .i64 t216, .int .i64 t217, .string t218, .int .i64 t219] 64 (0, 0)) (by (with_reducible repeat (first | refine blk_drewN ?_ _ | refine blk_drew ?_ | refine blk_alloc ?_ _)); exact BK220.out)) : gb220 ≠ gb255)); have n11_ := Aside0.mk ((by rw [hg]; exact Nat.ne_of_gt (blk_lt (g := gb220) (o := .cells #[.slice Ao22 t212.length co22, .int .i64 t215, .int .i64 t216, .int .i64 t217, .string t218, .int .i64 t219] 64 (0, 0)) (by (with_reducible repeat (first | refine blk_drewN ?_ _ | refine blk_drew ?_ | refine blk_alloc ?_ _)); exact BK220.out)) : gb255 ≠ gb220)); have n12_ := Aside0.mk ((by rw [hg]; exact Nat.ne_of_lt (blk_lt (g := gb232) (o := .cells #[.slice Ao28 t224.length co28, .int .i64 t227, .int .i64 t228, .int .i64 t229, .string t230, .int .i64 t231] 64 (0, 0)) (by (with_reducible repeat (first | refine blk_drewN ?_ _ | refine blk_drew ?_ | refine blk_alloc ?_ _)); exact BK232.out)) : gb232 ≠ gb255)); have n13_ := Aside0.mk ((by rw [hg]; exact Nat.ne_of_gt (blk_lt (g := gb232) (o := .cells #[.slice Ao28 t224.length co28, .int .i64 t227, .int .i64 t228, .int .i64 t229, .string t230, .int .i64 t231] 64 (0, 0)) (by (with_reducible repeat (first | refine blk_drewN ?_ _ | refine blk_drew ?_ | refine blk_alloc ?_ _)); exact BK232.out)) : gb255 ≠ gb232)); clear HO_221000; clear HO_233000; clear HO246; clear HO249; clear BK220; clear BK232; clear HB; have HO_221000 := n0_; have HO_233000 := n1_; have HO246 := n2_; have HO249 := n3_; have BK220 := n4_; have BK232 := n5_; have HB := n6_; have BK255 := n7_; have GW255 := n8_; have GE255 := n9_; have NB220_255 := n10_; have NB255_220 := n11_; have NB232_255 := n12_; have NB255_232 := n13_; clear n0_ n1_ n2_ n3_ n4_ n5_ n6_ n7_ n8_ n9_ n10_ n11_ n12_ n13_; clear hb hbox hg; obtain ⟨Ao64, co64, eo64⟩ := Kd.R_slice HO249.out; subst eo64; have hnb65 := NB255_220.out; have hnc65 := NB220_255.out; have hnb66 := NB255_232.out; have hnc66 := NB232_255.out; have hcz67_0 : w63.cell? ⟨gb255, 0, none⟩ = some (.slice none 0 0) := (blk_cell BK255.out 0).trans rfl; have hcz67_1 : w63.cell? ⟨gb255, 1, none⟩ = some (.int .i64 0) := (blk_cell BK255.out 1).trans rfl; have hcz67_2 : w63.cell? ⟨gb255, 2, none⟩ = some (.int .i64 0) := (blk_cell BK255.out 2).trans rfl; have hcz67_3 : w63.cell? ⟨gb255, 3, none⟩ = some (.int .i64 0) := (blk_cell BK255.out 3).trans rfl; have hcz67_4 : w63.cell? ⟨gb255, 4, none⟩ = some (.string (⟨#[]⟩ : ByteArray)) := (blk_cell BK255.out 4).trans rfl; have hcz67_5 : w63.cell? ⟨gb255, 5, none⟩ = some (.int .i64 0) := (blk_cell BK255.out 5).trans rfl; have hfz67_0 := blk_frozen BK255.out 0; have hfz67_1 := blk_frozen BK255.out 1; have hfz67_2 := blk_frozen BK255.out 2; have hfz67_3 := blk_frozen BK255.out 3; have hfz67_4 := blk_frozen BK255.out 4; have hfz67_5 := blk_frozen BK255.out 5; have hcz68_0 : w63.cell? ⟨gb220, 0, none⟩ = some (.slice Ao22 t212.length co22) := (blk_cell BK220.out 0).trans rfl; have hcz68_1 : w63.cell? ⟨gb220, 1, none⟩ = some (.int .i64 t215) := (blk_cell BK220.out 1).trans rfl; have hcz68_2 : w63.cell? ⟨gb220, 2, none⟩ = some (.int .i64 t216) := (blk_cell BK220.out 2).trans rfl; have hcz68_3 : w63.cell? ⟨gb220, 3, none⟩ = some (.int .i64 t217) := (blk_cell BK220.out 3).trans rfl; have hcz68_4 : w63.cell? ⟨gb220, 4, none⟩ = some (.string t218) := (blk_cell BK220.out 4).trans rfl; have hcz68_5 : w63.cell? ⟨gb220, 5, none⟩ = some (.int .i64 t219) := (blk_cell BK220.out 5).trans rfl; have hfz68_0 := blk_frozen BK220.out 0; have hfz68_1 := blk_frozen BK220.out 1; have hfz68_2 := blk_frozen BK220.out 2; have hfz68_3 := blk_frozen BK220.out 3; have hfz68_4 := blk_frozen BK220.out 4; have hfz68_5 := blk_frozen BK220.out 5) | ((with_reducible refine gate_callee (f := 43) rfl ?_); refine goesL_ (some 64) rfl rfl Try.func43 (by kernel_rfl) rfl #[.agg #[.slice Ao64 t247.length co64, .int .i64 t250, .int .i64 t251, .int .i64 t252, .string t253, .int .i64 t254], .agg #[.slice Ao22 t212.length co22, .int .i64 t215, .int .i64 t216, .int .i64 t217, .string t218, .int .i64 t219]] rfl (by (try simp only [List.map_toArray, List.map_cons, List.map_nil]); first | done | rfl | (simp only [List.length_drop, List.length_take]; rfl)) ?_; (with_reducible refine (laws_eqQueueOut.calls kj15 _ _ t247 t250 t251 t252 t253 t254 _ _ t212 t215 t216 t217 t218 t219 true _ ?side1 ?side2 ?side3 ?side4 A50.out).mono ?_); (case side1 => refine (Kd.R_reads' (e := 62) (base := w.heap.size) (ok := fun k_ => (((True ∧ some k_ ≠ (.slice Ao22 t212.length co22 : Value).ownBlock) ∧ some k_ ≠ (.slice Ao28 t224.length co28 : Value).ownBlock) ∧ some k_ ≠ (.slice Ao61 t244.length co61 : Value).ownBlock)) (n := t247.length) (c := co64) ?_).2.2; exact (by (with_reducible repeat (first | apply Kd.R_alloc | apply Kd.R_drewN | apply Kd.R_drew)); exact (Kd.R_mono (Kd.R_far (p := ⟨gb255, 5, none⟩) (Kd.R_far (p := ⟨gb255, 4, none⟩) (Kd.R_far (p := ⟨gb255, 3, none⟩) (Kd.R_far (p := ⟨gb255, 2, none⟩) (Kd.R_far (p := ⟨gb255, 1, none⟩) (Kd.R_far (p := ⟨gb255, 0, none⟩) (Kd.R_types HO249.out BK255.out (by decide)) (fun _ hk => hk.2) (.slice Ao64 t247.length co64)) (fun _ hk => hk.2) (.int .i64 t250)) (fun _ hk => hk.2) (.int .i64 t251)) (fun _ hk => hk.2) (.int .i64 t252)) (fun _ hk => hk.2) (.string t253)) (fun _ hk => hk.2) (.int .i64 t254)) (fun _ h_ => h_.1)))); (case side2 => exact (Kd.R_reads' HO249.out).2.1); (case side3 => refine (Kd.R_reads' (e := 62) (base := w.heap.size) (ok := fun k_ => ((some k_ ≠ (.slice Ao28 t224.length co28 : Value).ownBlock ∧ some k_ ≠ (.slice Ao61 t244.length co61 : Value).ownBlock) ∧ some k_ ≠ (.slice Ao64 t247.length co64 : Value).ownBlock)) (n := t212.length) (c := co22) ?_).2.2; exact (by (with_reducible repeat (first | apply Kd.R_alloc | apply Kd.R_drewN | apply Kd.R_drew)); exact (Kd.R_mono (Kd.R_far (p := ⟨gb255, 5, none⟩) (Kd.R_far (p := ⟨gb255, 4, none⟩) (Kd.R_far (p := ⟨gb255, 3, none⟩) (Kd.R_far (p := ⟨gb255, 2, none⟩) (Kd.R_far (p := ⟨gb255, 1, none⟩) (Kd.R_far (p := ⟨gb255, 0, none⟩) (Kd.R_types HO_221000.out BK255.out (by decide)) (fun _ hk => hk.2) (.slice Ao64 t247.length co64)) (fun _ hk => hk.2) (.int .i64 t250)) (fun _ hk => hk.2) (.int .i64 t251)) (fun _ hk => hk.2) (.int .i64 t252)) (fun _ hk => hk.2) (.string t253)) (fun _ hk => hk.2) (.int .i64 t254)) (fun _ h_ => h_.1)))); (case side4 => exact (Kd.R_reads' HO_221000.out).2.1); rintro e w69 ⟨rfl, hb⟩; refine ⟨_, rfl, ?_⟩; have n0_ := Aside0.mk (Kd.R_below (by (with_reducible repeat (first | apply Kd.R_alloc | apply Kd.R_drewN | apply Kd.R_drew)); exact (Kd.R_mono (Kd.R_far (p := ⟨gb255, 5, none⟩) (Kd.R_far (p := ⟨gb255, 4, none⟩) (Kd.R_far (p := ⟨gb255, 3, none⟩) (Kd.R_far (p := ⟨gb255, 2, none⟩) (Kd.R_far (p := ⟨gb255, 1, none⟩) (Kd.R_far (p := ⟨gb255, 0, none⟩) (Kd.R_types HO_221000.out BK255.out (by decide)) (fun _ hk => hk.2) (.slice Ao64 t247.length co64)) (fun _ hk => hk.2) (.int .i64 t250)) (fun _ hk => hk.2) (.int .i64 t251)) (fun _ hk => hk.2) (.int .i64 t252)) (fun _ hk => hk.2) (.string t253)) (fun _ hk => hk.2) (.int .i64 t254)) (fun _ h_ => h_.1))) hb); have n1_ := Aside0.mk (Kd.R_below (by (with_reducible repeat (first | apply Kd.R_alloc | apply Kd.R_drewN | apply Kd.R_drew)); exact (Kd.R_mono (Kd.R_far (p := ⟨gb255, 5, none⟩) (Kd.R_far (p := ⟨gb255, 4, none⟩) (Kd.R_far (p := ⟨gb255, 3, none⟩) (Kd.R_far (p := ⟨gb255, 2, none⟩) (Kd.R_far (p := ⟨gb255, 1, none⟩) (Kd.R_far (p := ⟨gb255, 0, none⟩) (Kd.R_types HO_233000.out BK255.out (by decide)) (fun _ hk => hk.2) (.slice Ao64 t247.length co64)) (fun _ hk => hk.2) (.int .i64 t250)) (fun _ hk => hk.2) (.int .i64 t251)) (fun _ hk => hk.2) (.int .i64 t252)) (fun _ hk => hk.2) (.string t253)) (fun _ hk => hk.2) (.int .i64 t254)) (fun _ h_ => h_.1))) hb); have n2_ := Aside0.mk (Kd.R_below (by (with_reducible repeat (first | apply Kd.R_alloc | apply Kd.R_drewN | apply Kd.R_drew)); exact (Kd.R_mono (Kd.R_far (p := ⟨gb255, 5, none⟩) (Kd.R_far (p := ⟨gb255, 4, none⟩) (Kd.R_far (p := ⟨gb255, 3, none⟩) (Kd.R_far (p := ⟨gb255, 2, none⟩) (Kd.R_far (p := ⟨gb255, 1, none⟩) (Kd.R_far (p := ⟨gb255, 0, none⟩) (Kd.R_types HO246.out BK255.out (by decide)) (fun _ hk => hk.2) (.slice Ao64 t247.length co64)) (fun _ hk => hk.2) (.int .i64 t250)) (fun _ hk => hk.2) (.int .i64 t251)) (fun _ hk => hk.2) (.int .i64 t252)) (fun _ hk => hk.2) (.string t253)) (fun _ hk => hk.2) (.int .i64 t254)) (fun _ h_ => h_.1))) hb); have n3_ := Aside0.mk (Kd.R_below (by (with_reducible repeat (first | apply Kd.R_alloc | apply Kd.R_drewN | apply Kd.R_drew)); exact (Kd.R_mono (Kd.R_far (p := ⟨gb255, 5, none⟩) (Kd.R_far (p := ⟨gb255, 4, none⟩) (Kd.R_far (p := ⟨gb255, 3, none⟩) (Kd.R_far (p := ⟨gb255, 2, none⟩) (Kd.R_far (p := ⟨gb255, 1, none⟩) (Kd.R_far (p := ⟨gb255, 0, none⟩) (Kd.R_types HO249.out BK255.out (by decide)) (fun _ hk => hk.2) (.slice Ao64 t247.length co64)) (fun _ hk => hk.2) (.int .i64 t250)) (fun _ hk => hk.2) (.int .i64 t251)) (fun _ hk => hk.2) (.int .i64 t252)) (fun _ hk => hk.2) (.string t253)) (fun _ hk => hk.2) (.int .i64 t254)) (fun _ h_ => h_.1))) hb); have n4_ := Aside0.mk (blk_below (g := gb220) (o := .cells #[.slice Ao22 t212.length co22, .int .i64 t215, .int .i64 t216, .int .i64 t217, .string t218, .int .i64 t219] 64 (0, 0)) (by (with_reducible repeat (first | refine blk_drewN ?_ _ | refine blk_drew ?_ | refine blk_alloc ?_ _)); refine blk_far ?_ NB220_255.out _; (with_reducible repeat (first | refine blk_drewN ?_ _ | refine blk_drew ?_ | refine blk_alloc ?_ _)); refine blk_far ?_ NB220_255.out _; (with_reducible repeat (first | refine blk_drewN ?_ _ | refine blk_drew ?_ | refine blk_alloc ?_ _)); refine blk_far ?_ NB220_255.out _; (with_reducible repeat (first | refine blk_drewN ?_ _ | refine blk_drew ?_ | refine blk_alloc ?_ _)); refine blk_far ?_ NB220_255.out _; (with_reducible repeat (first | refine blk_drewN ?_ _ | refine blk_drew ?_ | refine blk_alloc ?_ _)); refine blk_far ?_ NB220_255.out _; (with_reducible repeat (first | refine blk_drewN ?_ _ | refine blk_drew ?_ | refine blk_alloc ?_ _)); refine blk_far ?_ NB220_255.out _; (with_reducible repeat (first | refine blk_drewN ?_ _ | refine blk_drew ?_ | refine blk_alloc ?_ _)); exact BK220.out) hb); have n5_ := Aside0.mk (blk_below (g := gb232) (o := .cells #[.slice Ao28 t224.length co28, .int .i64 t227, .int .i64 t228, .int .i64 t229, .string t230, .int .i64 t231] 64 (0, 0)) (by (with_reducible repeat (first | refine blk_drewN ?_ _ | refine blk_drew ?_ | refine blk_alloc ?_ _)); refine blk_far ?_ NB232_255.out _; (with_reducible repeat (first | refine blk_drewN ?_ _ | refine blk_drew ?_ | refine blk_alloc ?_ _)); refine blk_far ?_ NB232_255.out _; (with_reducible repeat (first | refine blk_drewN ?_ _ | refine blk_drew ?_ | refine blk_alloc ?_ _)); refine blk_far ?_ NB232_255.out _; (with_reducible repeat (first | refine blk_drewN ?_ _ | refine blk_drew ?_ | refine blk_alloc ?_ _)); refine blk_far ?_ NB232_255.out _; (with_reducible repeat (first | refine blk_drewN ?_ _ | refine blk_drew ?_ | refine blk_alloc ?_ _)); refine blk_far ?_ NB232_255.out _; (with_reducible repeat (first | refine blk_drewN ?_ _ | refine blk_drew ?_ | refine blk_alloc ?_ _)); refine blk_far ?_ NB232_255.out _; (with_reducible repeat (first | refine blk_drewN ?_ _ | refine blk_drew ?_ | refine blk_alloc ?_ _)); exact BK232.out) hb); have n6_ := Aside0.mk (blk_below (g := gb255) (o := .cells #[.slice Ao64 t247.length co64, .int .i64 t250, .int .i64 t251, .int .i64 t252, .string t253, .int .i64 t254] 64 (0, 0)) (by (with_reducible repeat (first | refine blk_drewN ?_ _ | refine blk_drew ?_ | refine blk_alloc ?_ _)); refine blk_put (cs := #[.slice Ao64 t247.length co64, .int .i64 t250, .int .i64 t251, .int .i64 t252, .string t253, .int .i64 0]) ?_ 5 _ rfl; (with_reducible repeat (first | refine blk_drewN ?_ _ | refine blk_drew ?_ | refine blk_alloc ?_ _)); refine blk_put (cs := #[.slice Ao64 t247.length co64, .int .i64 t250, .int .i64 t251, .int .i64 t252, .string (⟨#[]⟩ : ByteArray), .int .i64 0]) ?_ 4 _ rfl; (with_reducible repeat (first | refine blk_drewN ?_ _ | refine blk_drew ?_ | refine blk_alloc ?_ _)); refine blk_put (cs := #[.slice Ao64 t247.length co64, .int .i64 t250, .int .i64 t251, .int .i64 0, .string (⟨#[]⟩ : ByteArray), .int .i64 0]) ?_ 3 _ rfl; (with_reducible repeat (first | refine blk_drewN ?_ _ | refine blk_drew ?_ | refine blk_alloc ?_ _)); refine blk_put (cs := #[.slice Ao64 t247.length co64, .int .i64 t250, .int .i64 0, .int .i64 0, .string (⟨#[]⟩ : ByteArray), .int .i64 0]) ?_ 2 _ rfl; (with_reducible repeat (first | refine blk_drewN ?_ _ | refine blk_drew ?_ | refine blk_alloc ?_ _)); refine blk_put (cs := #[.slice Ao64 t247.length co64, .int .i64 0, .int .i64 0, .int .i64 0, .string (⟨#[]⟩ : ByteArray), .int .i64 0]) ?_ 1 _ rfl; (with_reducible repeat (first | refine blk_drewN ?_ _ | refine blk_drew ?_ | refine blk_alloc ?_ _)); refine blk_put (cs := #[.slice none 0 0, .int .i64 0, .int .i64 0, .int .i64 0, .string (⟨#[]⟩ : ByteArray), .int .i64 0]) ?_ 0 _ rfl; (with_reducible repeat (first | refine blk_drewN ?_ _ | refine blk_drew ?_ | refine blk_alloc ?_ _)); exact BK255.out) hb); have n7_ := Aside0.mk (below_step (by repeat (first | (with_reducible first | exact HB.out | apply below_alloc | apply pw_below_drewN | apply below_drew1 | refine below_set ?_ GE220.out | refine below_set ?_ GE232.out | refine below_set ?_ GE255.out) | exact HB.out)) hb); clear HO_221000; clear HO_233000; clear HO246; clear HO249; clear BK220; clear BK232; clear BK255; clear HB; have HO_221000 := n0_; have HO_233000 := n1_; have HO246 := n2_; have HO249 := n3_; have BK220 := n4_; have BK232 := n5_; have BK255 := n6_; have HB := n7_; clear n0_ n1_ n2_ n3_ n4_ n5_ n6_ n7_; (try clear hb); (try clear hb2); (try clear hk); (try clear hi); have hcz70_0 : w69.cell? ⟨gb232, 0, none⟩ = some (.slice Ao28 t224.length co28) := (blk_cell BK232.out 0).trans rfl; have hcz70_1 : w69.cell? ⟨gb232, 1, none⟩ = some (.int .i64 t227) := (blk_cell BK232.out 1).trans rfl; have hcz70_2 : w69.cell? ⟨gb232, 2, none⟩ = some (.int .i64 t228) := (blk_cell BK232.out 2).trans rfl; have hcz70_3 : w69.cell? ⟨gb232, 3, none⟩ = some (.int .i64 t229) := (blk_cell BK232.out 3).trans rfl; have hcz70_4 : w69.cell? ⟨gb232, 4, none⟩ = some (.string t230) := (blk_cell BK232.out 4).trans rfl; have hcz70_5 : w69.cell? ⟨gb232, 5, none⟩ = some (.int .i64 t231) := (blk_cell BK232.out 5).trans rfl; have hfz70_0 := blk_frozen BK232.out 0; have hfz70_1 := blk_frozen BK232.out 1; have hfz70_2 := blk_frozen BK232.out 2; have hfz70_3 := blk_frozen BK232.out 3; have hfz70_4 := blk_frozen BK232.out 4; have hfz70_5 := blk_frozen BK232.out 5) | ((with_reducible refine gate_callee (f := 46) rfl ?_); refine goesL_ (some 68) rfl rfl Try.func46 (by kernel_rfl) rfl #[.agg #[.slice Ao28 t242.length co28, .int .i64 t227, .int .i64 t228, .int .i64 t229, .string t230, .int .i64 t231], .int .i64 1] rfl (by (try simp only [List.map_toArray, List.map_cons, List.map_nil]); first | done | (rw [show t242.length = t224.length from (Kd.R_reads' HO_233000.out).1.symm] <;> rfl) | rfl | (simp only [List.length_drop, List.length_take]; rfl)) ?_; (with_reducible refine (laws_heldQueueOut.calls kj15 _ _ t242 t227 t228 t229 t230 t231 1 t257 _ ?side1 ?side2 A52.out).mono ?_); (case side1 => repeat (first | exact (Kd.R_reads' HO_233000.out).2.2 | (with_reducible refine Kd.C_alloc ?_ _) | (with_reducible refine Kd.C_drewN ?_ _) | (with_reducible refine Kd.C_drew ?_))); (case side2 => rw [show t242.length = t224.length from (Kd.R_reads' HO_233000.out).1.symm]; exact (Kd.R_reads' HO_233000.out).2.1); rintro e w71 ⟨rfl, hb⟩; refine ⟨_, rfl, ?_⟩; have n0_ := Aside0.mk (Kd.R_below (by (with_reducible repeat (first | apply Kd.R_alloc | apply Kd.R_drewN | apply Kd.R_drew)); exact HO_221000.out) hb); have n1_ := Aside0.mk (Kd.R_below (by (with_reducible repeat (first | apply Kd.R_alloc | apply Kd.R_drewN | apply Kd.R_drew)); exact HO_233000.out) hb); have n2_ := Aside0.mk (Kd.R_below (by (with_reducible repeat (first | apply Kd.R_alloc | apply Kd.R_drewN | apply Kd.R_drew)); exact HO246.out) hb); have n3_ := Aside0.mk (Kd.R_below (by (with_reducible repeat (first | apply Kd.R_alloc | apply Kd.R_drewN | apply Kd.R_drew)); exact HO249.out) hb); have n4_ := Aside0.mk (blk_below (g := gb220) (o := .cells #[.slice Ao22 t212.length co22, .int .i64 t215, .int .i64 t216, .int .i64 t217, .string t218, .int .i64 t219] 64 (0, 0)) (by (with_reducible repeat (first | refine blk_drewN ?_ _ | refine blk_drew ?_ | refine blk_alloc ?_ _)); exact BK220.out) hb); have n5_ := Aside0.mk (blk_below (g := gb232) (o := .cells #[.slice Ao28 t224.length co28, .int .i64 t227, .int .i64 t228, .int .i64 t229, .string t230, .int .i64 t231] 64 (0, 0)) (by (with_reducible repeat (first | refine blk_drewN ?_ _ | refine blk_drew ?_ | refine blk_alloc ?_ _)); exact BK232.out) hb); have n6_ := Aside0.mk (blk_below (g := gb255) (o := .cells #[.slice Ao64 t247.length co64, .int .i64 t250, .int .i64 t251, .int .i64 t252, .string t253, .int .i64 t254] 64 (0, 0)) (by (with_reducible repeat (first | refine blk_drewN ?_ _ | refine blk_drew ?_ | refine blk_alloc ?_ _)); exact BK255.out) hb); have n7_ := Aside0.mk (below_step (by repeat (first | (with_reducible first | exact HB.out | apply below_alloc | apply pw_below_drewN | apply below_drew1 | refine below_set ?_ GE220.out | refine below_set ?_ GE232.out | refine below_set ?_ GE255.out) | exact HB.out)) hb); clear HO_221000; clear HO_233000; clear HO246; clear HO249; clear BK220; clear BK232; clear BK255; clear HB; have HO_221000 := n0_; have HO_233000 := n1_; have HO246 := n2_; have HO249 := n3_; have BK220 := n4_; have BK232 := n5_; have BK255 := n6_; have HB := n7_; clear n0_ n1_ n2_ n3_ n4_ n5_ n6_ n7_; (try clear hb); (try clear hb2); (try clear hk); (try clear hi)))
                        go_ret
                        exact ⟨by first | rfl | (simp [errW_none, errW_some] <;> rfl) | (simp [*, errW_none, errW_some] <;> rfl), by repeat (first | (with_reducible first | exact HB.out | apply below_alloc | apply pw_below_drewN | apply below_drew1 | refine below_set ?_ GE220.out | refine below_set ?_ GE232.out | refine below_set ?_ GE255.out) | exact HB.out)⟩
                      · rw [if_neg c54] at H
                        have c54b0 : (t257 == t241) = false := beq_eq_false_iff_ne.mpr c54
                        have c54b1 : (t257 != t241) = true := bne_iff_ne.mpr c54
                        exact absurd ((Option.some.inj H).trans HT_.out) (by decide)
                  · replace c51 := Bool.eq_false_iff.mpr c51
                    subst c51
                    have H1 : (some false) = some r := by rw [if_neg (show ¬ (false = true) by decide)] at H; exact H
                    clear H
                    have H := H1
                    clear H1
                    exact absurd ((Option.some.inj H).trans HT_.out) (by decide)
                · rw [if_neg c47] at H
                  have c47b0 : (t243 == t241) = false := beq_eq_false_iff_ne.mpr c47
                  have c47b1 : (t243 != t241) = true := bne_iff_ne.mpr c47
                  exact absurd ((Option.some.inj H).trans HT_.out) (by decide)
      · replace c14 := Bool.eq_false_iff.mpr c14
        subst c14
        have H1 : (some false) = some r := by rw [if_neg (show ¬ (false = true) by decide)] at H; exact H
        clear H
        have H := H1
        clear H1
        exact absurd ((Option.some.inj H).trans HT_.out) (by decide)
    · replace c11 := Bool.eq_false_iff.mpr c11
      subst c11
      have H1 : (some false) = some r := by rw [if_neg (show ¬ (false = true) by decide)] at H; exact H
      clear H
      have H := H1
      clear H1
      exact absurd ((Option.some.inj H).trans HT_.out) (by decide)

end Go.Proofs.Ytpadikfnnfnelaa.PFnExactQueueDrop
