import Derived.Test.YtkgjikjnciihmaaPFnTurnx0
namespace Go.Proofs.Ytkgjikjnciihmaa.PFnTurn
open Go.RowKit Go.Proofs.YtkgjikjnciihmaaW.PrintWords Go.Proofs.YtkgjikjnciihmaaW.PrintLast Go.Proofs.YtkgjikjnciihmaaW.PrintMore
attribute [local go_sem] max2_int min2_int max_two min_two max_three min_three max_four min_four   -- for this text's walks alone
set_option linter.unusedVariables false
set_option linter.unusedSimpArgs false
def IsS89 (w0 W : World) (g : Nat) (f0 : List Int) (f1 : Int) (f2 : Int) (f3 : Int) : Prop := ∃ A0 c0, W.heap[g]? = some (.cells #[.slice A0 f0.length c0, .int .i64 f1, .int .u64 f2, .int .i64 f3] 89 (0, 0)) ∧ w0.heap.size ≤ g ∧ Kd.C (Kd.int .u8) w0 A0 f0.length f0
theorem IsS89.grown {w0 W : World} {g : Nat} {f0 : List Int} {f1 : Int} {f2 : Int} {f3 : Int} {W1 : World} {row : Option Nat} (h : IsS89 w0 W g f0 f1 f2 f3) (hw : W.grownBy W1 row) (hne : some g ≠ row) : IsS89 w0 W1 g f0 f1 f2 f3 := by
  obtain ⟨A0, c0, hb, hg, hr0⟩ := h
  exact ⟨A0, c0, blk_grown hb hw hne, hg, hr0⟩
theorem IsS89.own_neN {w0 W : World} {g : Nat} {f0 : List Int} {f1 : Int} {f2 : Int} {f3 : Int} {α : Type} {d : Kd α} {e : Nat} {base : Nat} {ok : Nat → Prop} {v : Value} {xs : List α} (h : IsS89 w0 W g f0 f1 f2 f3) (ho : Kd.N d e W base ok v xs) (ht : e ≠ 89) : some g ≠ v.ownBlock := by
  obtain ⟨A0, c0, hb, hg, hr0⟩ := h
  exact Kd.N_ne ho hb ht
theorem IsS89.fresh {w0 W : World} {g : Nat} {f0 : List Int} {f1 : Int} {f2 : Int} {f3 : Int} (h : IsS89 w0 W g f0 f1 f2 f3) : ∀ k, W.heap.size ≤ k → k ≠ g := by
  obtain ⟨A0, c0, hb, hg, hr0⟩ := h
  exact Kd.freshB hb
theorem IsS89.kept {w0 W : World} {g : Nat} {f0 : List Int} {f1 : Int} {f2 : Int} {f3 : Int} {W1 : World} {S : Nat → Prop} (h : IsS89 w0 W g f0 f1 f2 f3) (hk : Kept W W1 S) (hne : ¬ S g) : IsS89 w0 W1 g f0 f1 f2 f3 := by
  obtain ⟨A0, c0, hb, hg, hr0⟩ := h
  exact ⟨A0, c0, blk_kept hb hk hne, hg, hr0⟩
theorem IsS89.below {w0 W : World} {g : Nat} {f0 : List Int} {f1 : Int} {f2 : Int} {f3 : Int} {W1 : World} (h : IsS89 w0 W g f0 f1 f2 f3) (hw : Below W.heap.size W W1) : IsS89 w0 W1 g f0 f1 f2 f3 := h.grown (grown_of_below hw none) (by simp)
theorem IsS89.alloc {w0 W : World} {g : Nat} {f0 : List Int} {f1 : Int} {f2 : Int} {f3 : Int} (h : IsS89 w0 W g f0 f1 f2 f3) (o : Obj) : IsS89 w0 (W.alloc o) g f0 f1 f2 f3 := h.below (below_alloc (Below.refl _ _) o)
theorem IsS89.drewN {w0 W : World} {g : Nat} {f0 : List Int} {f1 : Int} {f2 : Int} {f3 : Int} (h : IsS89 w0 W g f0 f1 f2 f3) (m : Nat) : IsS89 w0 (W.drewN m) g f0 f1 f2 f3 := h
theorem IsS89.drew {w0 W : World} {g : Nat} {f0 : List Int} {f1 : Int} {f2 : Int} {f3 : Int} (h : IsS89 w0 W g f0 f1 f2 f3) : IsS89 w0 W.drew g f0 f1 f2 f3 := h
theorem IsS89.at_ {w0 W : World} {g : Nat} {f0 : List Int} {f1 : Int} {f2 : Int} {f3 : Int} {w' : World} {m : Nat} (hq : W.drewN m = w') (h : IsS89 w0 W g f0 f1 f2 f3) : IsS89 w0 w' g f0 f1 f2 f3 := by subst hq; exact IsS89.drewN h m
theorem IsS89.apart {w0 W : World} {g : Nat} {f0 : List Int} {f1 : Int} {f2 : Int} {f3 : Int} {α : Type} {d : Kd α} {e : Nat} {base : Nat} {ok : Nat → Prop} {v : Value} {xs : List α} (h : IsS89 w0 W g f0 f1 f2 f3) (ho : d.R e W base ok v xs) (ht : ∀ q, q ∈ e :: d.E → q ≠ 89) : d.R e W base (fun k => ok k ∧ k ≠ g) v xs := by
  obtain ⟨A0, c0, hb, hg, hr0⟩ := h
  exact Kd.R_types ho hb ht
theorem IsS89.own_ne {w0 W : World} {g : Nat} {f0 : List Int} {f1 : Int} {f2 : Int} {f3 : Int} {α : Type} {d : Kd α} {e : Nat} {base : Nat} {ok : Nat → Prop} {v : Value} {xs : List α} (h : IsS89 w0 W g f0 f1 f2 f3) (ho : d.R e W base ok v xs) (ht : e ≠ 89) : some g ≠ v.ownBlock := by
  obtain ⟨A0, c0, hb, hg, hr0⟩ := h
  exact Kd.R_ne ho hb ht
theorem IsS89.apartQ {w0 W : World} {g : Nat} {f0 : List Int} {f1 : Int} {f2 : Int} {f3 : Int} {α : Type} {d : Kd α} {e : Nat} {base : Nat} {ok : Nat → Prop} {v : Value} {xs : List α} (h : IsS89 w0 W g f0 f1 f2 f3) (ho : d.Q e W base ok v xs) (ht : ∀ q, q ∈ e :: d.E → q ≠ 89) : d.Q e W base (fun k => ok k ∧ k ≠ g) v xs := by
  obtain ⟨A0, c0, hb, hg, hr0⟩ := h
  exact Kd.Q_types ho hb ht
theorem IsS89.own_neQ {w0 W : World} {g : Nat} {f0 : List Int} {f1 : Int} {f2 : Int} {f3 : Int} {α : Type} {d : Kd α} {e : Nat} {base : Nat} {ok : Nat → Prop} {v : Value} {xs : List α} (h : IsS89 w0 W g f0 f1 f2 f3) (ho : d.Q e W base ok v xs) (ht : e ≠ 89) : some g ≠ v.ownBlock := by
  obtain ⟨A0, c0, hb, hg, hr0⟩ := h
  exact Kd.Q_ne ho hb ht
theorem IsS89.apartS {w0 W : World} {g : Nat} {f0 : List Int} {f1 : Int} {f2 : Int} {f3 : Int} {α : Type} {d : Kd α} {e : Nat} {base : Nat} {ok : Nat → Prop} {v : Value} {xs : List α} (h : IsS89 w0 W g f0 f1 f2 f3) (ho : d.S e W base ok v xs) (ht : ∀ q, q ∈ e :: d.E → q ≠ 89) : d.S e W base (fun k => ok k ∧ k ≠ g) v xs := by
  obtain ⟨A0, c0, hb, hg, hr0⟩ := h
  exact Kd.S_types ho hb ht
theorem IsS89.own_neS {w0 W : World} {g : Nat} {f0 : List Int} {f1 : Int} {f2 : Int} {f3 : Int} {α : Type} {d : Kd α} {e : Nat} {base : Nat} {ok : Nat → Prop} {v : Value} {xs : List α} (h : IsS89 w0 W g f0 f1 f2 f3) (ho : d.S e W base ok v xs) (ht : e ≠ 89) : some g ≠ v.ownBlock := by
  obtain ⟨A0, c0, hb, hg, hr0⟩ := h
  exact Kd.S_ne ho hb ht
theorem IsS89.lt {w0 W : World} {g : Nat} {f0 : List Int} {f1 : Int} {f2 : Int} {f3 : Int} (h : IsS89 w0 W g f0 f1 f2 f3) : g < W.heap.size := by
  obtain ⟨A0, c0, hb, hg, hr0⟩ := h
  exact blk_lt hb
theorem IsS89.ge {w0 W : World} {g : Nat} {f0 : List Int} {f1 : Int} {f2 : Int} {f3 : Int} (h : IsS89 w0 W g f0 f1 f2 f3) : w0.heap.size ≤ g := by
  obtain ⟨A0, c0, hb, hg, hr0⟩ := h
  exact hg
theorem IsS89.ne_blk {w0 W : World} {g : Nat} {f0 : List Int} {f1 : Int} {f2 : Int} {f3 : Int} {a : Nat} {cs : Array Value} {t : TypeId} {fr : Nat × Nat} (h : IsS89 w0 W g f0 f1 f2 f3) (hb2 : W.heap[a]? = some (.cells cs t fr)) (ht : t ≠ 89) : g ≠ a := by
  obtain ⟨A0, c0, hb, hg, hr0⟩ := h
  rintro rfl
  rw [hb] at hb2
  injection hb2 with hb2
  injection hb2 with _ ht2
  exact ht ht2.symm
theorem IsS89.far {w0 W : World} {g : Nat} {f0 : List Int} {f1 : Int} {f2 : Int} {f3 : Int} {p : Addr} (h : IsS89 w0 W g f0 f1 f2 f3) (hne : g ≠ p.block) (u : Value) : IsS89 w0 (W.setCell p u) g f0 f1 f2 f3 := by
  obtain ⟨A0, c0, hb, hg, hr0⟩ := h
  exact ⟨A0, c0, blk_far hb hne u, hg, hr0⟩
theorem cellS89_0 {W : World} {g : Nat} {A0 : Option Addr} {c0 : Nat} {f0 : List Int} {f1 : Int} {f2 : Int} {f3 : Int} (h : W.heap[g]? = some (.cells #[.slice A0 f0.length c0, .int .i64 f1, .int .u64 f2, .int .i64 f3] 89 (0, 0))) : W.cell? ⟨g, 0, none⟩ = some (.slice A0 f0.length c0) := (blk_cell h 0).trans rfl
theorem cellS89_1 {W : World} {g : Nat} {A0 : Option Addr} {c0 : Nat} {f0 : List Int} {f1 : Int} {f2 : Int} {f3 : Int} (h : W.heap[g]? = some (.cells #[.slice A0 f0.length c0, .int .i64 f1, .int .u64 f2, .int .i64 f3] 89 (0, 0))) : W.cell? ⟨g, 1, none⟩ = some (.int .i64 f1) := (blk_cell h 1).trans rfl
theorem IsS89.set_1 {w0 W : World} {g : Nat} {f0 : List Int} {f1 : Int} {f2 : Int} {f3 : Int} (h : IsS89 w0 W g f0 f1 f2 f3) (x : Int) : IsS89 w0 (W.setCell ⟨g, 1, none⟩ (.int .i64 x)) g f0 x f2 f3 := by
  obtain ⟨A0, c0, hb, hg, hr0⟩ := h
  exact ⟨A0, c0, by simpa using blk_set hb 1 (.int .i64 x), hg, hr0⟩
theorem cellS89_2 {W : World} {g : Nat} {A0 : Option Addr} {c0 : Nat} {f0 : List Int} {f1 : Int} {f2 : Int} {f3 : Int} (h : W.heap[g]? = some (.cells #[.slice A0 f0.length c0, .int .i64 f1, .int .u64 f2, .int .i64 f3] 89 (0, 0))) : W.cell? ⟨g, 2, none⟩ = some (.int .u64 f2) := (blk_cell h 2).trans rfl
theorem IsS89.set_2 {w0 W : World} {g : Nat} {f0 : List Int} {f1 : Int} {f2 : Int} {f3 : Int} (h : IsS89 w0 W g f0 f1 f2 f3) (x : Int) : IsS89 w0 (W.setCell ⟨g, 2, none⟩ (.int .u64 x)) g f0 f1 x f3 := by
  obtain ⟨A0, c0, hb, hg, hr0⟩ := h
  exact ⟨A0, c0, by simpa using blk_set hb 2 (.int .u64 x), hg, hr0⟩
theorem cellS89_3 {W : World} {g : Nat} {A0 : Option Addr} {c0 : Nat} {f0 : List Int} {f1 : Int} {f2 : Int} {f3 : Int} (h : W.heap[g]? = some (.cells #[.slice A0 f0.length c0, .int .i64 f1, .int .u64 f2, .int .i64 f3] 89 (0, 0))) : W.cell? ⟨g, 3, none⟩ = some (.int .i64 f3) := (blk_cell h 3).trans rfl
theorem IsS89.set_3 {w0 W : World} {g : Nat} {f0 : List Int} {f1 : Int} {f2 : Int} {f3 : Int} (h : IsS89 w0 W g f0 f1 f2 f3) (x : Int) : IsS89 w0 (W.setCell ⟨g, 3, none⟩ (.int .i64 x)) g f0 f1 f2 x := by
  obtain ⟨A0, c0, hb, hg, hr0⟩ := h
  exact ⟨A0, c0, by simpa using blk_set hb 3 (.int .i64 x), hg, hr0⟩
theorem IsS89.new (w0 W : World) (A0 : Option Addr) (c0 : Nat) (f0 : List Int) (f1 : Int) (f2 : Int) (f3 : Int) (hB : Below w0.heap.size w0 W) (hr0 : Kd.C (Kd.int .u8) w0 A0 f0.length f0) : IsS89 w0 (W.alloc (.cells #[.slice A0 f0.length c0, .int .i64 f1, .int .u64 f2, .int .i64 f3] 89)) W.heap.size f0 f1 f2 f3 := ⟨A0, c0, by simpa using heap_alloc_new W _, hB.size, hr0⟩
def spec_l01Source.l0 : Nat → List Int → Int → List Int → Int → Int → Int → Option (List Int × Int × Int × Int)
  | 0, _, _, _, _, _, _ => none
  | k + 1, x0, x4, x102000, x102001, x102002, x102003 => if x4 < (x0.length : Int) then (if x4 < 64 then (if 0 ≤ x4 then (spec_l01Source.l0 k x0 (wrap64 (x4 + 1)) x102000 x102001 (IntKind.u64.wrap ((Go.bits .xor .u64 x102002 (IntKind.u64.wrap (rd x0 x4))) * 1099511628211)) x102003) else (none)) else (if (wrap64 ((x0.length : Int) / 20)) > 12 then (some (x102000, x102001, x102002, 12)) else (some (x102000, x102001, x102002, wrap64 ((x0.length : Int) / 20))))) else (if (wrap64 ((x0.length : Int) / 20)) > 12 then (some (x102000, x102001, x102002, 12)) else (some (x102000, x102001, x102002, wrap64 ((x0.length : Int) / 20))))
def spec_l01Source.f (k : Nat) (l0 : List Int) : Option (List Int × Int × Int × Int) := spec_l01Source.l0 k l0 0 l0 0 88172645463325252 0
theorem spec_l01Source.mono_l : ∀ k, (∀ y0 y1 y2 y3 y4 y5, LeO (spec_l01Source.l0 k y0 y1 y2 y3 y4 y5) (spec_l01Source.l0 (k + 1) y0 y1 y2 y3 y4 y5))
  | 0 => fun _ _ _ _ _ _ r h => by simp [spec_l01Source.l0] at h
  | k + 1 => by
    have ih0 := spec_l01Source.mono_l k
    · intro y0 y1 y2 y3 y4 y5
      unfold spec_l01Source.l0
      repeat' first
      | (with_reducible exact ih0 _ _ _ _ _ _)
      | (with_reducible exact LeO.refl _)
      | (with_reducible exact LeO.none _)
      | (with_reducible refine LeO.ite ?_ ?_)
      | (with_reducible refine LeO.bind ?_ (fun _ => ?_))
      | exact ih0 _ _ _ _ _ _
      | exact LeO.none _
      | refine LeO.ite ?_ ?_
      | refine LeO.bind ?_ (fun _ => ?_)
theorem spec_l01Source.mono : ∀ a0 k, LeO (spec_l01Source.f k a0) (spec_l01Source.f (k + 1) a0) := by
  intro a0 k
  have ih0 := spec_l01Source.mono_l k
  unfold spec_l01Source.f
  repeat' first
      | (with_reducible exact ih0 _ _ _ _ _ _)
      | (with_reducible exact LeO.refl _)
      | (with_reducible exact LeO.none _)
      | (with_reducible refine LeO.ite ?_ ?_)
      | (with_reducible refine LeO.bind ?_ (fun _ => ?_))
      | exact ih0 _ _ _ _ _ _
      | exact LeO.none _
      | refine LeO.ite ?_ ?_
      | refine LeO.bind ?_ (fun _ => ?_)
def spec_l01Source.T5 : Bool × List (List Nat × List Nat) := (true, [([], []), ([], []), ([1], [1]), ([2], [2]), ([3], [3]), ([], []), ([], []), ([5, 6], [5, 6]), ([7], [7]), ([8], [8]), ([4, 9], [4, 9]), ([10], [10]), ([0, 0, 1, 2, 3, 4, 5, 6, 7, 8, 9, 10, 11], [0]), ([12, 0, 1, 2, 3, 4, 5, 6, 7, 8, 9, 10, 11], [12]), ([13, 11, 0, 1, 2, 3, 4, 5, 6, 7, 8, 9, 10, 11], [11, 13])])
def spec_l01Source.B5 : List Nat := [0, 0, 2, 6, 14, 0, 0, 96, 224, 480, 1022, 2046, 4095, 8191, 16383]
theorem spec_l01Source.tab5 : rtab .any (opsOf Try.f50 5) = spec_l01Source.T5 := by kernel_rfl
theorem spec_l01Source.bits5 : waitsOk spec_l01Source.T5.2 spec_l01Source.B5 = true := by kernel_rfl
set_option maxHeartbeats 8000000 in
set_option maxRecDepth 100000 in
theorem spec_l01Source.calls (k : Nat) (A0 : Option Addr) (c0 : Nat) (l0 : List Int) (r1 : List Int) (r2 : Int) (r3 : Int) (r4 : Int) (w0 w : World) (hB : Below w0.heap.size w0 w) (hr0 : Kd.C (Kd.int .u8) w0 A0 l0.length l0) (hc0 : l0.length ≤ c0) (h : spec_l01Source.f k l0 = some (r1, r2, r3, r4)) :
    Calls Try.prog 50 #[.slice A0 l0.length c0] w fun e w' => ∃ g_ : Nat, e = .returned (.pointer (some ⟨g_, 0, none⟩)) ∧ IsS89 w0 w' g_ r1 r2 r3 r4 ∧ Below w0.heap.size w0 w' ∧ Below w.heap.size w w' := by
  have hu89 := Try.underlying89
  have HR0 := Aside0.mk hr0
  have HC0 := Aside0.mk hc0
  clear hr0 hc0
  have HBW := Aside0.mk (Below.refl w.heap.size w)
  have HW0 := Aside0.mk hB.size
  have HB := Aside0.mk hB
  clear hB
  have H : (spec_l01Source.l0 k l0 0 l0 0 88172645463325252 0) = some (r1, r2, r3, r4) := h
  clear h
  have H' := Aside0.mk H
  clear H
  go_enter Try.func50, Try.ntmps50
  go_wp2_with (first | ((with_reducible refine gate_dst (N := 7) rfl ?_); refine box_event ?hg (N := 7) ?hd (cs := #[.slice A0 l0.length c0, .int .i64 0, .int .u64 88172645463325252, .int .i64 0]) (t := 89) ?hr ?_; (case hd => rfl); (case hg => rfl); (case hr => first | (go_simp; done) | (go_simp; rfl)); intro gb101 hg w2 hbox hb; have n0_ := Aside0.mk (below_step HBW.out hb); have n1_ := Aside0.mk (below_step (by repeat (first | (with_reducible first | exact HB.out | apply below_alloc | apply pw_below_drewN | apply below_drew1) | exact HB.out)) hb); have n2_ := Aside0.mk (hbox); have n3_ := Aside0.mk ((by rw [hg]; exact (below_size (by repeat (first | (with_reducible first | exact HBW.out | apply below_alloc | apply pw_below_drewN | apply below_drew1) | exact HBW.out))) : w.heap.size ≤ gb101)); have n4_ := Aside0.mk ((Nat.le_trans HW0.out (by rw [hg]; exact (below_size (by repeat (first | (with_reducible first | exact HBW.out | apply below_alloc | apply pw_below_drewN | apply below_drew1) | exact HBW.out))) : w.heap.size ≤ gb101) : w0.heap.size ≤ gb101)); clear HBW; clear HB; have HBW := n0_; have HB := n1_; have BK101 := n2_; have GW101 := n3_; have GE101 := n4_; clear n0_ n1_ n2_ n3_ n4_; clear hb hbox hg))
  go_loopg [4] k (fun kq v4 w' => ∃ (x4_1 : Int) (x102002_1 : Int), v4 = .int .i64 x4_1 ∧ Aside0 (spec_l01Source.l0 kq l0 x4_1 l0 0 x102002_1 0 = some (r1, r2, r3, r4)) ∧ Aside0 (kq ≤ k) ∧ Aside0 (w'.heap[gb101]? = some (.cells #[(.slice A0 l0.length c0), .int .i64 0, .int .u64 x102002_1, .int .i64 0] 89 (0, 0))) ∧ Aside0 (Below w0.heap.size w0 w') ∧ Aside0 (Below w.heap.size w w'))
  case atStart => exact ⟨(0), (88172645463325252), (by first | rfl | (simp; done) | (simp [*]; done)), H', ⟨Nat.le_refl _⟩, ⟨by (with_reducible repeat (first | refine blk_drewN ?_ _ | refine blk_drew ?_ | refine blk_alloc ?_ _)); exact BK101.out⟩, ⟨by repeat (first | (with_reducible first | exact HB.out | apply below_alloc | apply pw_below_drewN | apply below_drew1 | refine below_set ?_ GE101.out) | exact HB.out)⟩, ⟨by repeat (first | (with_reducible first | exact HBW.out | apply below_alloc | apply pw_below_drewN | apply below_drew1 | refine below_set ?_ GW101.out) | exact HBW.out)⟩⟩
  case round =>
    clear H'
    try clear p2
    obtain ⟨x4_1, x102002_1, rfl, HA, HK1, BK101, HB, HBW⟩ := hrel
    cases gk with
    | zero => exact absurd HA.out (by simp [spec_l01Source.l0])
    | succ k1 =>
      have H := HA.out
      clear HA
      simp only [spec_l01Source.l0] at H
      by_cases c3 : x4_1 < (l0.length : Int)
      · rw [if_pos c3] at H
        have c3b0 : decide (x4_1 < (l0.length : Int)) = true := decide_eq_true c3
        clear c3
        by_cases c4 : x4_1 < 64
        · rw [if_pos c4] at H
          have c4b0 : decide (x4_1 < 64) = true := decide_eq_true c4
          clear c4
          by_cases c5 : 0 ≤ x4_1
          · rw [if_pos c5] at H
            have c5b0 : decide (0 ≤ x4_1) = true := decide_eq_true c5
            clear c5
            have H' := Aside0.mk H
            clear H
            try go_wp2
            have n0_ := Aside0.mk (blk_drew BK101.out)
            have n1_ := Aside0.mk (below_drew1 HB.out)
            clear BK101
            clear HB
            have BK101 := n0_
            have HB := n1_
            clear n0_ n1_
            have p102 : 0 ≤ (x4_1 : Int) := of_decide_eq_true (by first | (with_reducible assumption) | assumption)
            have q102 : x4_1 < (l0.length : Int) := of_decide_eq_true (by first | (with_reducible assumption) | assumption)
            obtain ⟨ad102, e102, hx102_0⟩ := Kd.at_int HR0.out x4_1 p102 q102
            have hw102_0 := hx102_0
            cases e102
            replace hx102_0 := pw_cell_below HB.out hx102_0
            replace p102 := eq_true p102
            replace q102 := eq_true q102
            refine start_ (n := 15) (S := fun w' => w'.cell? ⟨gb101, 0, none⟩ = some (.slice (some ad102) l0.length c0) ∧ w'.cell? ⟨gb101, 1, none⟩ = some (.int .i64 0) ∧ w'.cell? ⟨gb101, 2, none⟩ = some (.int .u64 x102002_1) ∧ w'.cell? ⟨gb101, 3, none⟩ = some (.int .i64 0) ∧ w'.cell? (ad102.add (x4_1).toNat) = some (.int .u8 (rd l0 x4_1))) (ds := [14]) #[false, false, false, false, false, false, false, false, false, false, false, false, false, false, false] (by kernel_rfl) rfl rfl ⟨(blk_cell BK101.out 0).trans rfl, (blk_cell BK101.out 1).trans rfl, (blk_cell BK101.out 2).trans rfl, (blk_cell BK101.out 3).trans rfl, ((HB.out.cell (World.block_lt_of_cell? w0 _ hw102_0)).trans hw102_0)⟩ (fun hHeld => ?_); refine with_tabW spec_l01Source.tab5 spec_l01Source.bits5 (fun HT_ HW_ => ?_)
            have HBW := Aside0.mk (below_drew1 HBW.out)
            generalize wr.drew = w6 at BK101 HB HBW hx102_0 hHeld ⊢
            refine pure_ (i := 0) (N := some 18) (v := ?_) (a' := ?_) #[true, false, false, false, false, false, false, false, false, false, false, false, false, false, false] rfl rfl (any_of HT_.out (by kernel_rfl)) (fun _ _ _ h => h) (Or.inl ⟨by rfl, ?_⟩) ?_ ?_
            rotate_left
            · intro w'
              go_simp
              with_reducible rfl
            rotate_left
            · simp only [Act.put, List.setIfInBounds_toArray, List.set_cons_zero, List.set_cons_succ, i64_w, i32_w]
              rfl
            refine pure_ (i := 1) (N := some 19) (v := ?_) (a' := ?_) #[true, true, false, false, false, false, false, false, false, false, false, false, false, false, false] rfl rfl (any_of HT_.out (by kernel_rfl)) (fun _ _ _ h => h) (Or.inl ⟨by rfl, ?_⟩) ?_ ?_
            rotate_left
            · intro w'
              go_simp
              with_reducible rfl
            rotate_left
            · simp only [Act.put, List.setIfInBounds_toArray, List.set_cons_zero, List.set_cons_succ, i64_w, i32_w]
              rfl
            refine pure_ (i := 2) (N := some 20) (v := ?_) (a' := ?_) #[true, true, true, false, false, false, false, false, false, false, false, false, false, false, false] rfl rfl (any_of HT_.out (by kernel_rfl)) (fun _ _ _ h => h) (Or.inl ⟨by rfl, ?_⟩) ?_ ?_
            rotate_left
            · intro w'
              go_simp
              with_reducible rfl
            rotate_left
            · simp only [Act.put, List.setIfInBounds_toArray, List.set_cons_zero, List.set_cons_succ, i64_w, i32_w]
              rfl
            refine pure_ (i := 3) (N := some 21) (v := ?_) (a' := ?_) #[true, true, true, true, false, false, false, false, false, false, false, false, false, false, false] rfl rfl (any_of HT_.out (by kernel_rfl)) (fun _ _ _ h => h) (Or.inl ⟨by rfl, ?_⟩) ?_ ?_
            rotate_left
            · intro w'
              go_simp
              with_reducible rfl
            rotate_left
            · simp only [Act.put, List.setIfInBounds_toArray, List.set_cons_zero, List.set_cons_succ, i64_w, i32_w]
              rfl
            refine pure_ (i := 5) (N := some 23) (v := ?_) (a' := ?_) #[true, true, true, true, false, true, false, false, false, false, false, false, false, false, false] rfl rfl (any_of HT_.out (by kernel_rfl)) (fun _ _ _ h => h) (Or.inl ⟨by rfl, ?_⟩) ?_ ?_
            rotate_left
            · intro w'
              go_simp
              with_reducible rfl
            rotate_left
            · simp only [Act.put, List.setIfInBounds_toArray, List.set_cons_zero, List.set_cons_succ, i64_w, i32_w]
              rfl
            refine pure_ (i := 6) (N := some 24) (v := ?_) (a' := ?_) #[true, true, true, true, false, true, true, false, false, false, false, false, false, false, false] rfl rfl (any_of HT_.out (by kernel_rfl)) (fun _ _ _ h => h) (Or.inl ⟨by rfl, ?_⟩) ?_ ?_
            rotate_left
            · intro w'
              go_simp
              with_reducible rfl
            rotate_left
            · simp only [Act.put, List.setIfInBounds_toArray, List.set_cons_zero, List.set_cons_succ, i64_w, i32_w]
              rfl
            refine pure_ (i := 7) (N := some 25) (v := ?_) (a' := ?_) #[true, true, true, true, false, true, true, true, false, false, false, false, false, false, false] rfl rfl (any_of HT_.out (by kernel_rfl)) (fun _ _ _ h => h) (Or.inl ⟨by rfl, ?_⟩) ?_ ?_
            rotate_left
            · intro w'
              go_simp
              with_reducible rfl
            rotate_left
            · simp only [Act.put, List.setIfInBounds_toArray, List.set_cons_zero, List.set_cons_succ, i64_w, i32_w]
              rfl
            refine take_ (i := 4) (N := some 22) (v := ?_) (a' := ?_) #[true, true, true, true, true, true, true, true, false, false, false, false, false, false, false] rfl rfl (take_ofW HT_.out HW_.out (by kernel_rfl)) (fun _ _ _ h => h) (Or.inl ⟨by rfl, ?_⟩) hHeld ?_ ?_
            rotate_left
            · rintro w' ⟨s0, s1, s2, s3, s4⟩
              go_simp
              with_reducible rfl
            rotate_left
            · simp only [Act.put, List.setIfInBounds_toArray, List.set_cons_zero, List.set_cons_succ, i64_w, i32_w]
              rfl
            refine take_ (i := 8) (N := some 26) (v := ?_) (a' := ?_) #[true, true, true, true, true, true, true, true, true, false, false, false, false, false, false] rfl rfl (take_ofW HT_.out HW_.out (by kernel_rfl)) (fun _ _ _ h => h) (Or.inl ⟨by rfl, ?_⟩) hHeld ?_ ?_
            rotate_left
            · rintro w' ⟨s0, s1, s2, s3, s4⟩
              go_simp
              with_reducible rfl
            rotate_left
            · simp only [Act.put, List.setIfInBounds_toArray, List.set_cons_zero, List.set_cons_succ, i64_w, i32_w]
              rfl
            refine pure_ (i := 9) (N := some 27) (v := ?_) (a' := ?_) #[true, true, true, true, true, true, true, true, true, true, false, false, false, false, false] rfl rfl (any_of HT_.out (by kernel_rfl)) (fun _ _ _ h => h) (Or.inl ⟨by rfl, ?_⟩) ?_ ?_
            rotate_left
            · intro w'
              go_simp
              with_reducible rfl
            rotate_left
            · simp only [Act.put, List.setIfInBounds_toArray, List.set_cons_zero, List.set_cons_succ, i64_w, i32_w]
              rfl
            refine pure_ (i := 10) (N := some 28) (v := ?_) (a' := ?_) #[true, true, true, true, true, true, true, true, true, true, true, false, false, false, false] rfl rfl (any_of HT_.out (by kernel_rfl)) (fun _ _ _ h => h) (Or.inl ⟨by rfl, ?_⟩) ?_ ?_
            rotate_left
            · intro w'
              go_simp
              with_reducible rfl
            rotate_left
            · simp only [Act.put, List.setIfInBounds_toArray, List.set_cons_zero, List.set_cons_succ, i64_w, i32_w]
              rfl
            refine pure_ (i := 11) (N := some 29) (v := ?_) (a' := ?_) #[true, true, true, true, true, true, true, true, true, true, true, true, false, false, false] rfl rfl (any_of HT_.out (by kernel_rfl)) (fun _ _ _ h => h) (Or.inl ⟨by rfl, ?_⟩) ?_ ?_
            rotate_left
            · intro w'
              go_simp
              with_reducible rfl
            rotate_left
            · simp only [Act.put, List.setIfInBounds_toArray, List.set_cons_zero, List.set_cons_succ, i64_w, i32_w]
              rfl
            refine pure_ (i := 12) (N := some 30) (v := ?_) (a' := ?_) #[true, true, true, true, true, true, true, true, true, true, true, true, true, false, false] rfl rfl (any_of HT_.out (by kernel_rfl)) (fun _ _ _ h => h) (Or.inl ⟨by rfl, ?_⟩) ?_ ?_
            rotate_left
            · intro w'
              go_simp
              with_reducible rfl
            rotate_left
            · simp only [Act.put, List.setIfInBounds_toArray, List.set_cons_zero, List.set_cons_succ, i64_w, i32_w]
              rfl
            refine pure_ (i := 13) (N := some 31) (v := ?_) (a' := ?_) #[true, true, true, true, true, true, true, true, true, true, true, true, true, true, false] rfl rfl (any_of HT_.out (by kernel_rfl)) (fun _ _ _ h => h) (Or.inl ⟨by rfl, ?_⟩) ?_ ?_
            rotate_left
            · intro w'
              go_simp
              with_reducible rfl
            rotate_left
            · simp only [Act.put, List.setIfInBounds_toArray, List.set_cons_zero, List.set_cons_succ, i64_w, i32_w]
              rfl
            refine last_ (i := 14) (N := none) #[true, true, true, true, true, true, true, true, true, true, true, true, true, true, true] rfl rfl (one_of HT_.out (by kernel_rfl)) (by decide) (fun K hK => ?_)
            have hs7 : w6.cell? ⟨gb101, 2, none⟩ = some (.int .u64 x102002_1) := (blk_cell BK101.out 2).trans rfl
            have hfs7 := blk_frozen BK101.out 2
            refine skip_ (w1 := ?_) (by rfl) rfl ?_ ?_
            rotate_left
            · go_simp
              rfl
            refine hK.out _ _ ?_
            clear hK K
            refine done_ (done_of HT_.out (by kernel_rfl)) ?_
            try go_wp2
            go_roundg k1
            case measure => have := HK1.out; omega
            case rel => exact ⟨(wrap64 (x4_1 + 1)), (IntKind.u64.wrap ((Go.bits .xor .u64 x102002_1 (IntKind.u64.wrap (rd l0 x4_1))) * 1099511628211)), (by first | rfl | (simp; done) | (simp [*]; done)), H', ⟨by have := HK1.out; omega⟩, ⟨by (with_reducible repeat (first | refine blk_drewN ?_ _ | refine blk_drew ?_ | refine blk_alloc ?_ _)); refine blk_put (cs := #[.slice (some ad102) l0.length c0, .int .i64 0, .int .u64 x102002_1, .int .i64 0]) ?_ 2 _ rfl; (with_reducible repeat (first | refine blk_drewN ?_ _ | refine blk_drew ?_ | refine blk_alloc ?_ _)); exact BK101.out⟩, ⟨by repeat (first | (with_reducible first | exact HB.out | apply below_alloc | apply pw_below_drewN | apply below_drew1 | refine below_set ?_ GE101.out) | exact HB.out)⟩, ⟨by repeat (first | (with_reducible first | exact HBW.out | apply below_alloc | apply pw_below_drewN | apply below_drew1 | refine below_set ?_ GW101.out) | exact HBW.out)⟩⟩
          · rw [if_neg c5] at H
            exact absurd H (by simp)
        · rw [if_neg c4] at H
          have c4b0 : decide (x4_1 < 64) = false := decide_eq_false c4
          clear c4
          by_cases c8 : (wrap64 ((l0.length : Int) / 20)) > 12
          · rw [if_pos c8] at H
            have c8b0 : decide (12 < (wrap64 ((l0.length : Int) / 20))) = true := decide_eq_true c8
            clear c8
            simp only [Option.some.injEq, Prod.mk.injEq] at H
            obtain ⟨rfl, rfl, rfl, rfl⟩ := H
            have hcz9_0 : wr.cell? ⟨gb101, 0, none⟩ = some (.slice A0 l0.length c0) := (blk_cell BK101.out 0).trans rfl
            have hcz9_1 : wr.cell? ⟨gb101, 1, none⟩ = some (.int .i64 0) := (blk_cell BK101.out 1).trans rfl
            have hcz9_2 : wr.cell? ⟨gb101, 2, none⟩ = some (.int .u64 x102002_1) := (blk_cell BK101.out 2).trans rfl
            have hcz9_3 : wr.cell? ⟨gb101, 3, none⟩ = some (.int .i64 0) := (blk_cell BK101.out 3).trans rfl
            have hfz9_0 := blk_frozen BK101.out 0
            have hfz9_1 := blk_frozen BK101.out 1
            have hfz9_2 := blk_frozen BK101.out 2
            have hfz9_3 := blk_frozen BK101.out 3
            go_wp2
            go_ret
            exact ⟨_, rfl, (show IsS89 w0 _ gb101 l0 0 x102002_1 12 from ⟨_, _, by (with_reducible repeat (first | refine blk_drewN ?_ _ | refine blk_drew ?_ | refine blk_alloc ?_ _)); refine blk_put (cs := #[.slice A0 l0.length c0, .int .i64 0, .int .u64 x102002_1, .int .i64 (wrap64 ((l0.length : Int) / 20))]) ?_ 3 _ rfl; (with_reducible repeat (first | refine blk_drewN ?_ _ | refine blk_drew ?_ | refine blk_alloc ?_ _)); refine blk_put (cs := #[.slice A0 l0.length c0, .int .i64 0, .int .u64 x102002_1, .int .i64 0]) ?_ 3 _ rfl; (with_reducible repeat (first | refine blk_drewN ?_ _ | refine blk_drew ?_ | refine blk_alloc ?_ _)); exact BK101.out, GE101.out, HR0.out⟩), by repeat (first | (with_reducible first | exact HB.out | apply below_alloc | apply pw_below_drewN | apply below_drew1 | refine below_set ?_ GE101.out) | exact HB.out), by repeat (first | (with_reducible first | exact HBW.out | apply below_alloc | apply pw_below_drewN | apply below_drew1 | refine below_set ?_ GW101.out) | exact HBW.out)⟩
          · rw [if_neg c8] at H
            have c8b0 : decide (12 < (wrap64 ((l0.length : Int) / 20))) = false := decide_eq_false c8
            clear c8
            simp only [Option.some.injEq, Prod.mk.injEq] at H
            obtain ⟨rfl, rfl, rfl, rfl⟩ := H
            have hcz10_0 : wr.cell? ⟨gb101, 0, none⟩ = some (.slice A0 l0.length c0) := (blk_cell BK101.out 0).trans rfl
            have hcz10_1 : wr.cell? ⟨gb101, 1, none⟩ = some (.int .i64 0) := (blk_cell BK101.out 1).trans rfl
            have hcz10_2 : wr.cell? ⟨gb101, 2, none⟩ = some (.int .u64 x102002_1) := (blk_cell BK101.out 2).trans rfl
            have hcz10_3 : wr.cell? ⟨gb101, 3, none⟩ = some (.int .i64 0) := (blk_cell BK101.out 3).trans rfl
            have hfz10_0 := blk_frozen BK101.out 0
            have hfz10_1 := blk_frozen BK101.out 1
            have hfz10_2 := blk_frozen BK101.out 2
            have hfz10_3 := blk_frozen BK101.out 3
            go_wp2
            go_ret
            exact ⟨_, rfl, (show IsS89 w0 _ gb101 l0 0 x102002_1 (wrap64 ((l0.length : Int) / 20)) from ⟨_, _, by (with_reducible repeat (first | refine blk_drewN ?_ _ | refine blk_drew ?_ | refine blk_alloc ?_ _)); refine blk_put (cs := #[.slice A0 l0.length c0, .int .i64 0, .int .u64 x102002_1, .int .i64 0]) ?_ 3 _ rfl; (with_reducible repeat (first | refine blk_drewN ?_ _ | refine blk_drew ?_ | refine blk_alloc ?_ _)); exact BK101.out, GE101.out, HR0.out⟩), by repeat (first | (with_reducible first | exact HB.out | apply below_alloc | apply pw_below_drewN | apply below_drew1 | refine below_set ?_ GE101.out) | exact HB.out), by repeat (first | (with_reducible first | exact HBW.out | apply below_alloc | apply pw_below_drewN | apply below_drew1 | refine below_set ?_ GW101.out) | exact HBW.out)⟩
      · rw [if_neg c3] at H
        have c3b0 : decide (x4_1 < (l0.length : Int)) = false := decide_eq_false c3
        clear c3
        by_cases c11 : (wrap64 ((l0.length : Int) / 20)) > 12
        · rw [if_pos c11] at H
          have c11b0 : decide (12 < (wrap64 ((l0.length : Int) / 20))) = true := decide_eq_true c11
          clear c11
          simp only [Option.some.injEq, Prod.mk.injEq] at H
          obtain ⟨rfl, rfl, rfl, rfl⟩ := H
          have hcz12_0 : wr.cell? ⟨gb101, 0, none⟩ = some (.slice A0 l0.length c0) := (blk_cell BK101.out 0).trans rfl
          have hcz12_1 : wr.cell? ⟨gb101, 1, none⟩ = some (.int .i64 0) := (blk_cell BK101.out 1).trans rfl
          have hcz12_2 : wr.cell? ⟨gb101, 2, none⟩ = some (.int .u64 x102002_1) := (blk_cell BK101.out 2).trans rfl
          have hcz12_3 : wr.cell? ⟨gb101, 3, none⟩ = some (.int .i64 0) := (blk_cell BK101.out 3).trans rfl
          have hfz12_0 := blk_frozen BK101.out 0
          have hfz12_1 := blk_frozen BK101.out 1
          have hfz12_2 := blk_frozen BK101.out 2
          have hfz12_3 := blk_frozen BK101.out 3
          go_wp2
          go_ret
          exact ⟨_, rfl, (show IsS89 w0 _ gb101 l0 0 x102002_1 12 from ⟨_, _, by (with_reducible repeat (first | refine blk_drewN ?_ _ | refine blk_drew ?_ | refine blk_alloc ?_ _)); refine blk_put (cs := #[.slice A0 l0.length c0, .int .i64 0, .int .u64 x102002_1, .int .i64 (wrap64 ((l0.length : Int) / 20))]) ?_ 3 _ rfl; (with_reducible repeat (first | refine blk_drewN ?_ _ | refine blk_drew ?_ | refine blk_alloc ?_ _)); refine blk_put (cs := #[.slice A0 l0.length c0, .int .i64 0, .int .u64 x102002_1, .int .i64 0]) ?_ 3 _ rfl; (with_reducible repeat (first | refine blk_drewN ?_ _ | refine blk_drew ?_ | refine blk_alloc ?_ _)); exact BK101.out, GE101.out, HR0.out⟩), by repeat (first | (with_reducible first | exact HB.out | apply below_alloc | apply pw_below_drewN | apply below_drew1 | refine below_set ?_ GE101.out) | exact HB.out), by repeat (first | (with_reducible first | exact HBW.out | apply below_alloc | apply pw_below_drewN | apply below_drew1 | refine below_set ?_ GW101.out) | exact HBW.out)⟩
        · rw [if_neg c11] at H
          have c11b0 : decide (12 < (wrap64 ((l0.length : Int) / 20))) = false := decide_eq_false c11
          clear c11
          simp only [Option.some.injEq, Prod.mk.injEq] at H
          obtain ⟨rfl, rfl, rfl, rfl⟩ := H
          have hcz13_0 : wr.cell? ⟨gb101, 0, none⟩ = some (.slice A0 l0.length c0) := (blk_cell BK101.out 0).trans rfl
          have hcz13_1 : wr.cell? ⟨gb101, 1, none⟩ = some (.int .i64 0) := (blk_cell BK101.out 1).trans rfl
          have hcz13_2 : wr.cell? ⟨gb101, 2, none⟩ = some (.int .u64 x102002_1) := (blk_cell BK101.out 2).trans rfl
          have hcz13_3 : wr.cell? ⟨gb101, 3, none⟩ = some (.int .i64 0) := (blk_cell BK101.out 3).trans rfl
          have hfz13_0 := blk_frozen BK101.out 0
          have hfz13_1 := blk_frozen BK101.out 1
          have hfz13_2 := blk_frozen BK101.out 2
          have hfz13_3 := blk_frozen BK101.out 3
          go_wp2
          go_ret
          exact ⟨_, rfl, (show IsS89 w0 _ gb101 l0 0 x102002_1 (wrap64 ((l0.length : Int) / 20)) from ⟨_, _, by (with_reducible repeat (first | refine blk_drewN ?_ _ | refine blk_drew ?_ | refine blk_alloc ?_ _)); refine blk_put (cs := #[.slice A0 l0.length c0, .int .i64 0, .int .u64 x102002_1, .int .i64 0]) ?_ 3 _ rfl; (with_reducible repeat (first | refine blk_drewN ?_ _ | refine blk_drew ?_ | refine blk_alloc ?_ _)); exact BK101.out, GE101.out, HR0.out⟩), by repeat (first | (with_reducible first | exact HB.out | apply below_alloc | apply pw_below_drewN | apply below_drew1 | refine below_set ?_ GE101.out) | exact HB.out), by repeat (first | (with_reducible first | exact HBW.out | apply below_alloc | apply pw_below_drewN | apply below_drew1 | refine below_set ?_ GW101.out) | exact HBW.out)⟩
def spec_l01Src_n.x1 (m : Int) : Int := Go.bits .xor .u64 m (IntKind.u64.wrap (m * 8192))
def spec_l01Src_n.x2 (m : Int) : Int := Go.bits .xor .u64 m (m / 128)
def spec_l01Src_n.x3 (m : Int) : Int := Go.bits .xor .u64 m (IntKind.u64.wrap (m * 131072))
def spec_l01Src_n.mx (m : Int) : Int := spec_l01Src_n.x3 (spec_l01Src_n.x2 (spec_l01Src_n.x1 m))
def spec_l01Src_n.val (v m a : Int) : Int := wrap64 ((IntKind.u64.wrap (v + m / 1048576)).tmod (IntKind.u64.wrap a))
def spec_l01Src_n.f (s0_0 : List Int) (s0_1 : Int) (s0_2 : Int) (s0_3 : Int) (a1 : Int) : Option (Int × Int × Int × Int) := if a1 ≤ 1 then some (0, s0_1, s0_2, s0_3) else if IntKind.u64.wrap a1 = 0 then none else if s0_1 < (s0_0.length : Int) then (if 0 ≤ s0_1 then some (spec_l01Src_n.val (IntKind.u64.wrap (rd s0_0 s0_1)) (spec_l01Src_n.mx s0_2) a1, wrap64 (s0_1 + 1), spec_l01Src_n.mx s0_2, s0_3) else none) else some (spec_l01Src_n.val 0 (spec_l01Src_n.mx s0_2) a1, s0_1, spec_l01Src_n.mx s0_2, s0_3)
set_option maxHeartbeats 8000000 in
set_option maxRecDepth 100000 in
theorem spec_l01Src_n.calls (g : Nat) (s0_0 : List Int) (s0_1 : Int) (s0_2 : Int) (s0_3 : Int) (a1 : Int) (r1 : Int) (r2 : Int) (r3 : Int) (r4 : Int) (w0 w : World) (hI : IsS89 w0 w g s0_0 s0_1 s0_2 s0_3) (hB : Below w0.heap.size w0 w) (h : spec_l01Src_n.f s0_0 s0_1 s0_2 s0_3 a1 = some (r1, r2, r3, r4)) :
    Calls Try.prog 55 #[.pointer (some ⟨g, 0, none⟩), .int .i64 a1] w fun e w' => e = .returned (.int .i64 r1) ∧ IsS89 w0 w' g s0_0 r2 r3 r4 ∧ Below w0.heap.size w0 w' ∧ KeepBut w w' g none := by
  have hu89 := Try.underlying89
  obtain ⟨A0, c0, hb, hg, hr⟩ := hI
  have hz0 : w.cell? ⟨g, 0, none⟩ = some (.slice A0 s0_0.length c0) := (blk_cell hb 0).trans rfl
  have hz1 : w.cell? ⟨g, 1, none⟩ = some (.int .i64 s0_1) := (blk_cell hb 1).trans rfl
  have hz2 : w.cell? ⟨g, 2, none⟩ = some (.int .u64 s0_2) := (blk_cell hb 2).trans rfl
  have hf1 := blk_frozen hb 1
  have hf2 := blk_frozen hb 2
  have HR := Aside0.mk hr
  have HG := Aside0.mk hg
  have HB := Aside0.mk hB
  have BK := Aside0.mk hb
  have HK := Aside0.mk (KeepBut.refl w g none)
  clear hr hg hB hb
  unfold spec_l01Src_n.f at h
  by_cases c1 : a1 ≤ 1
  · have c1d : decide (a1 ≤ 1) = true := decide_eq_true c1
    rw [if_pos c1] at h
    simp only [Option.some.injEq, Prod.mk.injEq] at h
    obtain ⟨rfl, rfl, rfl, rfl⟩ := h
    go_enter Try.func55, Try.ntmps55
    go_wp2
    go_ret
    exact ⟨rfl, ⟨A0, c0, BK.out, HG.out, HR.out⟩, HB.out, HK.out⟩
  · have c1d : decide (a1 ≤ 1) = false := decide_eq_false c1
    rw [if_neg c1] at h
    by_cases c0' : IntKind.u64.wrap a1 = 0
    · rw [if_pos c0'] at h; cases h
    rw [if_neg c0'] at h
    by_cases c2 : s0_1 < (s0_0.length : Int)
    · rw [if_pos c2] at h
      by_cases c3 : 0 ≤ s0_1
      · rw [if_pos c3] at h
        have c2d : decide (s0_1 < (s0_0.length : Int)) = true := decide_eq_true c2
        obtain ⟨ad, e_, hx0⟩ := Kd.at_int HR.out s0_1 c3 c2
        cases e_
        have hp := eq_true c3
        have hq := eq_true c2
        go_enter Try.func55, Try.ntmps55
        go_upto_region 4 with (fail)
        go_quiet (fail)
        have BK1 := Aside0.mk (blk_drewN BK.out nq)
        have HB1 := Aside0.mk (pw_below_drewN HB.out nq)
        have HK1 := Aside0.mk (keep_drewN HK.out nq)
        clear BK HB HK
        generalize w.drewN nq = w1 at BK1 HB1 HK1 ⊢
        have BK := BK1
        have HB := HB1
        have HK := HK1
        clear BK1 HB1 HK1
        clear hz0 hz1 hz2 hf1 hf2
        have hz0 : w1.cell? ⟨g, 0, none⟩ = some (.slice (some ad) s0_0.length c0) := (blk_cell BK.out 0).trans rfl
        have hz1 : w1.cell? ⟨g, 1, none⟩ = some (.int .i64 s0_1) := (blk_cell BK.out 1).trans rfl
        have hz2 : w1.cell? ⟨g, 2, none⟩ = some (.int .u64 s0_2) := (blk_cell BK.out 2).trans rfl
        have hf1 := blk_frozen BK.out 1
        have hf2 := blk_frozen BK.out 2
        have hx := pw_cell_below HB.out hx0
        go_upto_region 5 with (fail)
        go_quiet (fail)
        have BK1 := Aside0.mk (blk_drewN BK.out nq)
        have HB1 := Aside0.mk (pw_below_drewN HB.out nq)
        have HK1 := Aside0.mk (keep_drewN HK.out nq)
        clear BK HB HK
        generalize w1.drewN nq = w2 at BK1 HB1 HK1 ⊢
        have BK := BK1
        have HB := HB1
        have HK := HK1
        clear BK1 HB1 HK1
        clear hz0 hz1 hz2 hf1 hf2
        have hz0 : w2.cell? ⟨g, 0, none⟩ = some (.slice (some ad) s0_0.length c0) := (blk_cell BK.out 0).trans rfl
        have hz1 : w2.cell? ⟨g, 1, none⟩ = some (.int .i64 s0_1) := (blk_cell BK.out 1).trans rfl
        have hz2 : w2.cell? ⟨g, 2, none⟩ = some (.int .u64 s0_2) := (blk_cell BK.out 2).trans rfl
        have hf1 := blk_frozen BK.out 1
        have hf2 := blk_frozen BK.out 2
        go_upto_region 7 with (fail)
        have BK1 := Aside0.mk ((blk_put (cs := #[.slice (some ad) s0_0.length c0, .int .i64 s0_1, .int .u64 s0_2, .int .i64 s0_3]) BK.out 1 (.int .i64 (wrap64 (s0_1 + 1))) rfl))
        have HB1 := Aside0.mk ((below_set (j := 1) (v := .int .i64 (wrap64 (s0_1 + 1))) HB.out HG.out))
        have HK1 := Aside0.mk ((KeepBut.set_ HK.out 1 (.int .i64 (wrap64 (s0_1 + 1)))))
        clear BK HB HK
        generalize (w2.setCell ⟨g, 1, none⟩ (.int .i64 (wrap64 (s0_1 + 1)))) = w3 at BK1 HB1 HK1 ⊢
        have BK := BK1
        have HB := HB1
        have HK := HK1
        clear BK1 HB1 HK1
        clear hz0 hz1 hz2 hf1 hf2
        have hz0 : w3.cell? ⟨g, 0, none⟩ = some (.slice (some ad) s0_0.length c0) := (blk_cell BK.out 0).trans rfl
        have hz1 : w3.cell? ⟨g, 1, none⟩ = some (.int .i64 (wrap64 (s0_1 + 1))) := (blk_cell BK.out 1).trans rfl
        have hz2 : w3.cell? ⟨g, 2, none⟩ = some (.int .u64 s0_2) := (blk_cell BK.out 2).trans rfl
        have hf1 := blk_frozen BK.out 1
        have hf2 := blk_frozen BK.out 2
        go_upto_region 7 with (fail)
        go_still_tail 13, (by kernel_rfl)
        go_upto_region 8 with (fail)
        generalize hm1 : Go.bits .xor .u64 s0_2 (IntKind.u64.wrap (s0_2 * 8192)) = m1
        have BK1 := Aside0.mk (blk_drew (blk_put (cs := #[.slice (some ad) s0_0.length c0, .int .i64 (wrap64 (s0_1 + 1)), .int .u64 s0_2, .int .i64 s0_3]) BK.out 2 (.int .u64 m1) rfl))
        have HB1 := Aside0.mk (below_drew1 (below_set (j := 2) (v := .int .u64 m1) HB.out HG.out))
        have HK1 := Aside0.mk (keep_drew (KeepBut.set_ HK.out 2 (.int .u64 m1)))
        clear BK HB HK
        generalize (w3.setCell ⟨g, 2, none⟩ (.int .u64 m1)).drew = w3_0 at BK1 HB1 HK1 ⊢
        have BK := BK1
        have HB := HB1
        have HK := HK1
        clear BK1 HB1 HK1
        clear hz0 hz1 hz2 hf1 hf2
        have hz0 : w3_0.cell? ⟨g, 0, none⟩ = some (.slice (some ad) s0_0.length c0) := (blk_cell BK.out 0).trans rfl
        have hz1 : w3_0.cell? ⟨g, 1, none⟩ = some (.int .i64 (wrap64 (s0_1 + 1))) := (blk_cell BK.out 1).trans rfl
        have hz2 : w3_0.cell? ⟨g, 2, none⟩ = some (.int .u64 m1) := (blk_cell BK.out 2).trans rfl
        have hf1 := blk_frozen BK.out 1
        have hf2 := blk_frozen BK.out 2
        go_upto_region 8 with (fail)
        go_still_tail 13, (by kernel_rfl)
        go_upto_region 9 with (fail)
        generalize hm2 : Go.bits .xor .u64 m1 (m1 / 128) = m2
        have BK1 := Aside0.mk (blk_drew (blk_put (cs := #[.slice (some ad) s0_0.length c0, .int .i64 (wrap64 (s0_1 + 1)), .int .u64 m1, .int .i64 s0_3]) BK.out 2 (.int .u64 m2) rfl))
        have HB1 := Aside0.mk (below_drew1 (below_set (j := 2) (v := .int .u64 m2) HB.out HG.out))
        have HK1 := Aside0.mk (keep_drew (KeepBut.set_ HK.out 2 (.int .u64 m2)))
        clear BK HB HK
        generalize (w3_0.setCell ⟨g, 2, none⟩ (.int .u64 m2)).drew = w3_0_1 at BK1 HB1 HK1 ⊢
        have BK := BK1
        have HB := HB1
        have HK := HK1
        clear BK1 HB1 HK1
        clear hz0 hz1 hz2 hf1 hf2
        have hz0 : w3_0_1.cell? ⟨g, 0, none⟩ = some (.slice (some ad) s0_0.length c0) := (blk_cell BK.out 0).trans rfl
        have hz1 : w3_0_1.cell? ⟨g, 1, none⟩ = some (.int .i64 (wrap64 (s0_1 + 1))) := (blk_cell BK.out 1).trans rfl
        have hz2 : w3_0_1.cell? ⟨g, 2, none⟩ = some (.int .u64 m2) := (blk_cell BK.out 2).trans rfl
        have hf1 := blk_frozen BK.out 1
        have hf2 := blk_frozen BK.out 2
        go_upto_region 9 with (fail)
        go_still_tail 13, (by kernel_rfl)
        go_upto_region 10 with (fail)
        generalize hm3 : Go.bits .xor .u64 m2 (IntKind.u64.wrap (m2 * 131072)) = m3
        have BK1 := Aside0.mk (blk_drew (blk_put (cs := #[.slice (some ad) s0_0.length c0, .int .i64 (wrap64 (s0_1 + 1)), .int .u64 m2, .int .i64 s0_3]) BK.out 2 (.int .u64 m3) rfl))
        have HB1 := Aside0.mk (below_drew1 (below_set (j := 2) (v := .int .u64 m3) HB.out HG.out))
        have HK1 := Aside0.mk (keep_drew (KeepBut.set_ HK.out 2 (.int .u64 m3)))
        clear BK HB HK
        generalize (w3_0_1.setCell ⟨g, 2, none⟩ (.int .u64 m3)).drew = w3_0_1_2 at BK1 HB1 HK1 ⊢
        have BK := BK1
        have HB := HB1
        have HK := HK1
        clear BK1 HB1 HK1
        clear hz0 hz1 hz2 hf1 hf2
        have hz0 : w3_0_1_2.cell? ⟨g, 0, none⟩ = some (.slice (some ad) s0_0.length c0) := (blk_cell BK.out 0).trans rfl
        have hz1 : w3_0_1_2.cell? ⟨g, 1, none⟩ = some (.int .i64 (wrap64 (s0_1 + 1))) := (blk_cell BK.out 1).trans rfl
        have hz2 : w3_0_1_2.cell? ⟨g, 2, none⟩ = some (.int .u64 m3) := (blk_cell BK.out 2).trans rfl
        have hf1 := blk_frozen BK.out 1
        have hf2 := blk_frozen BK.out 2
        have hm : spec_l01Src_n.mx s0_2 = m3 := by rw [← hm3, ← hm2, ← hm1]; rfl
        rw [hm] at h
        simp only [Option.some.injEq, Prod.mk.injEq] at h
        obtain ⟨h1, rfl, rfl, rfl⟩ := h
        go_wp2
        have h1' : Ending.returned (Value.int .i64 r1) = Ending.returned (Value.int .i64 r1) := rfl
        subst h1
        go_ret
        exact ⟨by first | rfl | (simp [spec_l01Src_n.val]; done), ⟨(some ad), c0, BK.out, HG.out, HR.out⟩, HB.out, HK.out⟩
      · rw [if_neg c3] at h; cases h
    · rw [if_neg c2] at h
      have c2d : decide (s0_1 < (s0_0.length : Int)) = false := decide_eq_false c2
      go_enter Try.func55, Try.ntmps55
      go_upto_region 4 with (fail)
      go_quiet (fail)
      have BK1 := Aside0.mk (blk_drewN BK.out nq)
      have HB1 := Aside0.mk (pw_below_drewN HB.out nq)
      have HK1 := Aside0.mk (keep_drewN HK.out nq)
      clear BK HB HK
      generalize w.drewN nq = w1 at BK1 HB1 HK1 ⊢
      have BK := BK1
      have HB := HB1
      have HK := HK1
      clear BK1 HB1 HK1
      clear hz0 hz1 hz2 hf1 hf2
      have hz0 : w1.cell? ⟨g, 0, none⟩ = some (.slice A0 s0_0.length c0) := (blk_cell BK.out 0).trans rfl
      have hz1 : w1.cell? ⟨g, 1, none⟩ = some (.int .i64 s0_1) := (blk_cell BK.out 1).trans rfl
      have hz2 : w1.cell? ⟨g, 2, none⟩ = some (.int .u64 s0_2) := (blk_cell BK.out 2).trans rfl
      have hf1 := blk_frozen BK.out 1
      have hf2 := blk_frozen BK.out 2
      go_upto_region 7 with (fail)
      go_still_tail 13, (by kernel_rfl)
      go_upto_region 8 with (fail)
      generalize hm1 : Go.bits .xor .u64 s0_2 (IntKind.u64.wrap (s0_2 * 8192)) = m1
      have BK1 := Aside0.mk (blk_drew (blk_put (cs := #[.slice A0 s0_0.length c0, .int .i64 s0_1, .int .u64 s0_2, .int .i64 s0_3]) BK.out 2 (.int .u64 m1) rfl))
      have HB1 := Aside0.mk (below_drew1 (below_set (j := 2) (v := .int .u64 m1) HB.out HG.out))
      have HK1 := Aside0.mk (keep_drew (KeepBut.set_ HK.out 2 (.int .u64 m1)))
      clear BK HB HK
      generalize (w1.setCell ⟨g, 2, none⟩ (.int .u64 m1)).drew = w1_0 at BK1 HB1 HK1 ⊢
      have BK := BK1
      have HB := HB1
      have HK := HK1
      clear BK1 HB1 HK1
      clear hz0 hz1 hz2 hf1 hf2
      have hz0 : w1_0.cell? ⟨g, 0, none⟩ = some (.slice A0 s0_0.length c0) := (blk_cell BK.out 0).trans rfl
      have hz1 : w1_0.cell? ⟨g, 1, none⟩ = some (.int .i64 s0_1) := (blk_cell BK.out 1).trans rfl
      have hz2 : w1_0.cell? ⟨g, 2, none⟩ = some (.int .u64 m1) := (blk_cell BK.out 2).trans rfl
      have hf1 := blk_frozen BK.out 1
      have hf2 := blk_frozen BK.out 2
      go_upto_region 8 with (fail)
      go_still_tail 13, (by kernel_rfl)
      go_upto_region 9 with (fail)
      generalize hm2 : Go.bits .xor .u64 m1 (m1 / 128) = m2
      have BK1 := Aside0.mk (blk_drew (blk_put (cs := #[.slice A0 s0_0.length c0, .int .i64 s0_1, .int .u64 m1, .int .i64 s0_3]) BK.out 2 (.int .u64 m2) rfl))
      have HB1 := Aside0.mk (below_drew1 (below_set (j := 2) (v := .int .u64 m2) HB.out HG.out))
      have HK1 := Aside0.mk (keep_drew (KeepBut.set_ HK.out 2 (.int .u64 m2)))
      clear BK HB HK
      generalize (w1_0.setCell ⟨g, 2, none⟩ (.int .u64 m2)).drew = w1_0_1 at BK1 HB1 HK1 ⊢
      have BK := BK1
      have HB := HB1
      have HK := HK1
      clear BK1 HB1 HK1
      clear hz0 hz1 hz2 hf1 hf2
      have hz0 : w1_0_1.cell? ⟨g, 0, none⟩ = some (.slice A0 s0_0.length c0) := (blk_cell BK.out 0).trans rfl
      have hz1 : w1_0_1.cell? ⟨g, 1, none⟩ = some (.int .i64 s0_1) := (blk_cell BK.out 1).trans rfl
      have hz2 : w1_0_1.cell? ⟨g, 2, none⟩ = some (.int .u64 m2) := (blk_cell BK.out 2).trans rfl
      have hf1 := blk_frozen BK.out 1
      have hf2 := blk_frozen BK.out 2
      go_upto_region 9 with (fail)
      go_still_tail 13, (by kernel_rfl)
      go_upto_region 10 with (fail)
      generalize hm3 : Go.bits .xor .u64 m2 (IntKind.u64.wrap (m2 * 131072)) = m3
      have BK1 := Aside0.mk (blk_drew (blk_put (cs := #[.slice A0 s0_0.length c0, .int .i64 s0_1, .int .u64 m2, .int .i64 s0_3]) BK.out 2 (.int .u64 m3) rfl))
      have HB1 := Aside0.mk (below_drew1 (below_set (j := 2) (v := .int .u64 m3) HB.out HG.out))
      have HK1 := Aside0.mk (keep_drew (KeepBut.set_ HK.out 2 (.int .u64 m3)))
      clear BK HB HK
      generalize (w1_0_1.setCell ⟨g, 2, none⟩ (.int .u64 m3)).drew = w1_0_1_2 at BK1 HB1 HK1 ⊢
      have BK := BK1
      have HB := HB1
      have HK := HK1
      clear BK1 HB1 HK1
      clear hz0 hz1 hz2 hf1 hf2
      have hz0 : w1_0_1_2.cell? ⟨g, 0, none⟩ = some (.slice A0 s0_0.length c0) := (blk_cell BK.out 0).trans rfl
      have hz1 : w1_0_1_2.cell? ⟨g, 1, none⟩ = some (.int .i64 s0_1) := (blk_cell BK.out 1).trans rfl
      have hz2 : w1_0_1_2.cell? ⟨g, 2, none⟩ = some (.int .u64 m3) := (blk_cell BK.out 2).trans rfl
      have hf1 := blk_frozen BK.out 1
      have hf2 := blk_frozen BK.out 2
      have hm : spec_l01Src_n.mx s0_2 = m3 := by rw [← hm3, ← hm2, ← hm1]; rfl
      rw [hm] at h
      simp only [Option.some.injEq, Prod.mk.injEq] at h
      obtain ⟨h1, rfl, rfl, rfl⟩ := h
      go_wp2
      have h1' : Ending.returned (Value.int .i64 r1) = Ending.returned (Value.int .i64 r1) := rfl
      subst h1
      go_ret
      exact ⟨by first | rfl | (simp [spec_l01Src_n.val]; done), ⟨A0, c0, BK.out, HG.out, HR.out⟩, HB.out, HK.out⟩
def spec_l01Src_one.f (s0_0 : List Int) (s0_1 : Int) (s0_2 : Int) (s0_3 : Int) (a1 : Int) : Option (Bool × Int × Int × Int) := (spec_l01Src_n.f s0_0 s0_1 s0_2 s0_3 a1).bind fun bt103 => (some ((bt103.1 == 0), bt103.2.1, bt103.2.2.1, bt103.2.2.2))
set_option maxHeartbeats 8000000 in
set_option maxRecDepth 100000 in
theorem spec_l01Src_one.calls (g : Nat) (s0_0 : List Int) (s0_1 : Int) (s0_2 : Int) (s0_3 : Int) (a1 : Int) (r1 : Bool) (r2 : Int) (r3 : Int) (r4 : Int) (w0 w : World) (hI : IsS89 w0 w g s0_0 s0_1 s0_2 s0_3) (hB : Below w0.heap.size w0 w) (h : spec_l01Src_one.f s0_0 s0_1 s0_2 s0_3 a1 = some (r1, r2, r3, r4)) :
    Calls Try.prog 54 #[.pointer (some ⟨g, 0, none⟩), .int .i64 a1] w fun e w' => e = .returned (.bool r1) ∧ IsS89 w0 w' g s0_0 r2 r3 r4 ∧ Below w0.heap.size w0 w' ∧ KeepBut w w' g none := by
  have HI0 := Aside0.mk hI
  have HK := Aside0.mk (KeepBut.refl w g none)
  have HL := Aside0.mk hB.size
  clear hI
  have HW0 := Aside0.mk hB.size
  have HB := Aside0.mk hB
  clear hB
  have H : ((spec_l01Src_n.f s0_0 s0_1 s0_2 s0_3 a1).bind fun bt103 => (some ((bt103.1 == 0), bt103.2.1, bt103.2.2.1, bt103.2.2.2))) = some (r1, r2, r3, r4) := h
  clear h
  replace H := Option.bind_eq_some_iff.mp H
  obtain ⟨⟨t103, t104, t105, t106⟩, A30, H⟩ := H
  replace H : (some ((t103 == 0), t104, t105, t106)) = some (r1, r2, r3, r4) := H
  have A3 := Aside0.mk A30
  clear A30
  simp only [Option.some.injEq, Prod.mk.injEq] at H
  obtain ⟨rfl, rfl, rfl, rfl⟩ := H
  go_enter Try.func54, Try.ntmps54
  go_wp2_with (first | ((with_reducible refine gate_callee (f := 55) rfl ?_); refine goesL_ (some 7) rfl rfl Try.func55 (by kernel_rfl) rfl #[.pointer (some ⟨g, 0, none⟩), .int .i64 a1] rfl (by (try simp only [List.map_toArray, List.map_cons, List.map_nil]); first | done | rfl | (simp only [List.length_drop, List.length_take]; rfl)) ?_; (with_reducible refine (spec_l01Src_n.calls g s0_0 s0_1 s0_2 s0_3 a1 t103 t104 t105 t106 w0 _ ?side1 ?side2 A3.out).mono ?_); (case side1 => repeat (first | (with_reducible first | exact HI0.out | apply IsS89.alloc | apply IsS89.drewN | apply IsS89.drew | apply IsS89.set_1 | apply IsS89.set_2 | apply IsS89.set_3) | exact HI0.out)); (case side2 => repeat (first | (with_reducible first | exact HB.out | apply below_alloc | apply pw_below_drewN | apply below_drew1 | refine below_set ?_ (IsS89.ge HI0.out)) | exact HB.out)); rintro e w4 ⟨rfl, hi, hb, hk⟩; refine ⟨_, rfl, ?_⟩; have n0_ := Aside0.mk (KeepBut.trans (by repeat (first | (with_reducible first | exact HK.out | apply KeepBut.set_ | apply keep_drewN | apply keep_drew | apply keep_alloc) | exact HK.out)) hk (.inl rfl)); have n1_ := Aside0.mk (hb); have n2_ := Aside0.mk (hi); clear HK; clear HB; clear HI0; have HK := n0_; have HB := n1_; have HI0 := n2_; clear n0_ n1_ n2_; (try clear hb); (try clear hb2); (try clear hk); (try clear hi)))
  go_ret
  exact ⟨by first | rfl | (simp [errW_none, errW_some] <;> rfl) | (simp [*, errW_none, errW_some] <;> rfl), by repeat (first | (with_reducible first | exact HI0.out | apply IsS89.alloc | apply IsS89.drewN | apply IsS89.drew | apply IsS89.set_1 | apply IsS89.set_2 | apply IsS89.set_3) | exact HI0.out), by repeat (first | (with_reducible first | exact HB.out | apply below_alloc | apply pw_below_drewN | apply below_drew1 | refine below_set ?_ (IsS89.ge HI0.out)) | exact HB.out), by repeat (first | (with_reducible first | exact HK.out | apply KeepBut.set_ | apply keep_drewN | apply keep_drew | apply keep_alloc) | exact HK.out)⟩
def spec_l01Src_edge.f (s0_0 : List Int) (s0_1 : Int) (s0_2 : Int) (s0_3 : Int) : Option (Int × Int × Int × Int) := (some (([0, 1, (-1), 2, 1000, 1001, 2147483648, 2147483647, (-2147483648), 4611686018427387904, 9223372036854775807, (-9223372036854775808), 1000000, 1000001] : List Int) : List Int)).bind fun y107 => ((spec_l01Src_n.f s0_0 s0_1 s0_2 s0_3 14).bind fun bt110 => (if 0 ≤ bt110.1 then (if bt110.1 < (y107.length : Int) then (some (rd y107 bt110.1, bt110.2.1, bt110.2.2.1, bt110.2.2.2)) else (none)) else (none)))
set_option maxHeartbeats 8000000 in
set_option maxRecDepth 100000 in
theorem spec_l01Src_edge.calls (g : Nat) (s0_0 : List Int) (s0_1 : Int) (s0_2 : Int) (s0_3 : Int) (r1 : Int) (r2 : Int) (r3 : Int) (r4 : Int) (w0 w : World) (hI : IsS89 w0 w g s0_0 s0_1 s0_2 s0_3) (hB : Below w0.heap.size w0 w) (h : spec_l01Src_edge.f s0_0 s0_1 s0_2 s0_3 = some (r1, r2, r3, r4)) :
    Calls Try.prog 60 #[.pointer (some ⟨g, 0, none⟩)] w fun e w' => e = .returned (.int .i64 r1) ∧ IsS89 w0 w' g s0_0 r2 r3 r4 ∧ Below w0.heap.size w0 w' ∧ KeepBut w w' g none := by
  have HI0 := Aside0.mk hI
  have HK := Aside0.mk (KeepBut.refl w g none)
  have HL := Aside0.mk hB.size
  clear hI
  have HW0 := Aside0.mk hB.size
  have HB := Aside0.mk hB
  clear hB
  have H : ((some (([0, 1, (-1), 2, 1000, 1001, 2147483648, 2147483647, (-2147483648), 4611686018427387904, 9223372036854775807, (-9223372036854775808), 1000000, 1000001] : List Int) : List Int)).bind fun y107 => ((spec_l01Src_n.f s0_0 s0_1 s0_2 s0_3 14).bind fun bt110 => (if 0 ≤ bt110.1 then (if bt110.1 < (y107.length : Int) then (some (rd y107 bt110.1, bt110.2.1, bt110.2.2.1, bt110.2.2.2)) else (none)) else (none)))) = some (r1, r2, r3, r4) := h
  clear h
  obtain ⟨y107, hy107⟩ : ∃ y_ : List Int, y_ = (([0, 1, (-1), 2, 1000, 1001, 2147483648, 2147483647, (-2147483648), 4611686018427387904, 9223372036854775807, (-9223372036854775808), 1000000, 1000001] : List Int)) := ⟨_, rfl⟩
  replace H : ((spec_l01Src_n.f s0_0 s0_1 s0_2 s0_3 14).bind fun bt110 => (if 0 ≤ bt110.1 then (if bt110.1 < (y107.length : Int) then (some (rd y107 bt110.1, bt110.2.1, bt110.2.2.1, bt110.2.2.2)) else (none)) else (none))) = some (r1, r2, r3, r4) := by first | (rw [hy107]; with_reducible exact H) | (have H2_ := (Option.bind_some _ _).symm.trans H; rw [hy107]; with_reducible exact H2_) | (have H2_ := (Option.bind_some _ _).symm.trans H; with_reducible exact H2_) | with_reducible exact H | (rw [hy107]; exact H) | exact H
  have Ny107 := Aside0.mk hy107
  clear hy107
  replace H := Option.bind_eq_some_iff.mp H
  obtain ⟨⟨t110, t111, t112, t113⟩, A20, H⟩ := H
  replace H : (if 0 ≤ t110 then (if t110 < (y107.length : Int) then (some (rd y107 t110, t111, t112, t113)) else (none)) else (none)) = some (r1, r2, r3, r4) := H
  have A2 := Aside0.mk A20
  clear A20
  by_cases c3 : 0 ≤ t110
  · rw [if_pos c3] at H
    have c3b0 : decide (0 ≤ t110) = true := decide_eq_true c3
    clear c3
    by_cases c4 : t110 < (y107.length : Int)
    · rw [if_pos c4] at H
      have c4b0 : decide (t110 < (y107.length : Int)) = true := decide_eq_true c4
      clear c4
      simp only [Option.some.injEq, Prod.mk.injEq] at H
      obtain ⟨rfl, rfl, rfl, rfl⟩ := H
      go_enter Try.func60, Try.ntmps60
      go_wp2_with (first | ((with_reducible refine gate_dst (N := 3) rfl ?_); refine Kd.R_lit (Kd.int .i64) _ 2 ?hg (N := 3) ?hd (xs := ([0, 1, (-1), 2, 1000, 1001, 2147483648, 2147483647, (-2147483648), 4611686018427387904, 9223372036854775807, (-9223372036854775808), 1000000, 1000001] : List Int)) (inner := [.int .i64 0, .int .i64 1, .int .i64 (-1), .int .i64 2, .int .i64 1000, .int .i64 1001, .int .i64 2147483648, .int .i64 2147483647, .int .i64 (-2147483648), .int .i64 4611686018427387904, .int .i64 9223372036854775807, .int .i64 (-9223372036854775808), .int .i64 1000000, .int .i64 1000001]) (ok := fun _ => True) (okp := fun _ => True) ?hr ?hp (fun _ hk => hk) trivial (Below.refl _ _) (Nat.le_refl _) (by simp) ?_; (case hd => rfl); (case hg => rfl); (case hr => first | (go_simp; done) | (go_simp; rfl)); (case hp => exact (Reps.one (show Kd.M (Kd.int .i64) _ _ _ 0 [.int .i64 0] from rfl) (Reps.one (show Kd.M (Kd.int .i64) _ _ _ 1 [.int .i64 1] from rfl) (Reps.one (show Kd.M (Kd.int .i64) _ _ _ (-1) [.int .i64 (-1)] from rfl) (Reps.one (show Kd.M (Kd.int .i64) _ _ _ 2 [.int .i64 2] from rfl) (Reps.one (show Kd.M (Kd.int .i64) _ _ _ 1000 [.int .i64 1000] from rfl) (Reps.one (show Kd.M (Kd.int .i64) _ _ _ 1001 [.int .i64 1001] from rfl) (Reps.one (show Kd.M (Kd.int .i64) _ _ _ 2147483648 [.int .i64 2147483648] from rfl) (Reps.one (show Kd.M (Kd.int .i64) _ _ _ 2147483647 [.int .i64 2147483647] from rfl) (Reps.one (show Kd.M (Kd.int .i64) _ _ _ (-2147483648) [.int .i64 (-2147483648)] from rfl) (Reps.one (show Kd.M (Kd.int .i64) _ _ _ 4611686018427387904 [.int .i64 4611686018427387904] from rfl) (Reps.one (show Kd.M (Kd.int .i64) _ _ _ 9223372036854775807 [.int .i64 9223372036854775807] from rfl) (Reps.one (show Kd.M (Kd.int .i64) _ _ _ (-9223372036854775808) [.int .i64 (-9223372036854775808)] from rfl) (Reps.one (show Kd.M (Kd.int .i64) _ _ _ 1000000 [.int .i64 1000000] from rfl) (Reps.one (show Kd.M (Kd.int .i64) _ _ _ 1000001 [.int .i64 1000001] from rfl) (Reps.none _ _)))))))))))))))); intro v108 w5 ho6 hb hg_ hnew_; clear hg_ hnew_; (first | rw [← Ny107.out] at ho6 | (simp only [Int.reduceToNat] at ho6; rw [← Ny107.out] at ho6)); have n0_ := Aside0.mk (Kd.R_lower ho6 (keep_size (w := w) (g := g) (row := none) (by repeat (first | (with_reducible first | exact HK.out | apply KeepBut.set_ | apply keep_drewN | apply keep_drew | apply keep_alloc) | exact HK.out)))); have n1_ := Aside0.mk (IsS89.below (by repeat (first | (with_reducible first | exact HI0.out | apply IsS89.alloc | apply IsS89.drewN | apply IsS89.drew | apply IsS89.set_1 | apply IsS89.set_2 | apply IsS89.set_3) | exact HI0.out)) hb); have n2_ := Aside0.mk (KeepBut.trans (by repeat (first | (with_reducible first | exact HK.out | apply KeepBut.set_ | apply keep_drewN | apply keep_drew | apply keep_alloc) | exact HK.out)) (KeepBut.of_below hb g none) (.inl rfl)); have n3_ := Aside0.mk (below_step (by repeat (first | (with_reducible first | exact HB.out | apply below_alloc | apply pw_below_drewN | apply below_drew1 | refine below_set ?_ (IsS89.ge HI0.out)) | exact HB.out)) hb); clear HI0; clear HK; clear HB; have HO109 := n0_; have HI0 := n1_; have HK := n2_; have HB := n3_; clear n0_ n1_ n2_ n3_; clear hb ho6) | ((with_reducible refine gate_callee (f := 55) rfl ?_); refine goesL_ (some 5) rfl rfl Try.func55 (by kernel_rfl) rfl #[.pointer (some ⟨g, 0, none⟩), .int .i64 14] rfl (by (try simp only [List.map_toArray, List.map_cons, List.map_nil]); first | done | rfl | (simp only [List.length_drop, List.length_take]; rfl)) ?_; (with_reducible refine (spec_l01Src_n.calls g s0_0 s0_1 s0_2 s0_3 14 t110 t111 t112 t113 w0 _ ?side1 ?side2 A2.out).mono ?_); (case side1 => repeat (first | (with_reducible first | exact HI0.out | apply IsS89.alloc | apply IsS89.drewN | apply IsS89.drew | apply IsS89.set_1 | apply IsS89.set_2 | apply IsS89.set_3) | exact HI0.out)); (case side2 => repeat (first | (with_reducible first | exact HB.out | apply below_alloc | apply pw_below_drewN | apply below_drew1 | refine below_set ?_ (IsS89.ge HI0.out)) | exact HB.out)); rintro e w7 ⟨rfl, hi, hb, hk⟩; refine ⟨_, rfl, ?_⟩; have n0_ := Aside0.mk (Kd.R_mono (Kd.R_keep (IsS89.apart (show IsS89 w0 _ g s0_0 s0_1 s0_2 s0_3 from by repeat (first | (with_reducible first | exact HI0.out | apply IsS89.alloc | apply IsS89.drewN | apply IsS89.drew | apply IsS89.set_1 | apply IsS89.set_2 | apply IsS89.set_3) | exact HI0.out)) (by (with_reducible repeat (first | apply Kd.R_alloc | apply Kd.R_drewN | apply Kd.R_drew)); exact HO109.out) (by decide)) hk (fun _ h => h.2)) (fun _ h => h.1)); have n1_ := Aside0.mk (KeepBut.trans (by repeat (first | (with_reducible first | exact HK.out | apply KeepBut.set_ | apply keep_drewN | apply keep_drew | apply keep_alloc) | exact HK.out)) hk (.inl rfl)); have n2_ := Aside0.mk (hb); have n3_ := Aside0.mk (hi); clear HO109; clear HK; clear HB; clear HI0; have HO109 := n0_; have HK := n1_; have HB := n2_; have HI0 := n3_; clear n0_ n1_ n2_ n3_; (try clear hb); (try clear hb2); (try clear hk); (try clear hi); obtain ⟨Ao8, co8, eo8⟩ := Kd.R_slice HO109.out; subst eo8; have p114 : 0 ≤ (t110 : Int) := of_decide_eq_true (by first | (with_reducible assumption) | assumption); have q114 : t110 < (y107.length : Int) := of_decide_eq_true (by first | (with_reducible assumption) | assumption); obtain ⟨ad114, e114, hx114_0⟩ := Kd.at_int (Kd.R_reads' HO109.out).2.2 t110 p114 q114; cases e114; replace p114 := eq_true p114; replace q114 := eq_true q114))
      go_ret
      exact ⟨by first | rfl | (simp [errW_none, errW_some] <;> rfl) | (simp [*, errW_none, errW_some] <;> rfl), by repeat (first | (with_reducible first | exact HI0.out | apply IsS89.alloc | apply IsS89.drewN | apply IsS89.drew | apply IsS89.set_1 | apply IsS89.set_2 | apply IsS89.set_3) | exact HI0.out), by repeat (first | (with_reducible first | exact HB.out | apply below_alloc | apply pw_below_drewN | apply below_drew1 | refine below_set ?_ (IsS89.ge HI0.out)) | exact HB.out), by repeat (first | (with_reducible first | exact HK.out | apply KeepBut.set_ | apply keep_drewN | apply keep_drew | apply keep_alloc) | exact HK.out)⟩
    · rw [if_neg c4] at H
      exact absurd H (by simp)
  · rw [if_neg c3] at H
    exact absurd H (by simp)
def spec_l02Has.l0 : Nat → List Int → Int → Int → Option (Bool)
  | 0, _, _, _ => none
  | k + 1, x0, x1, x5 => if x5 < (x0.length : Int) then (if 0 ≤ x5 then (if (rd x0 x5) = x1 then (some true) else (spec_l02Has.l0 k x0 x1 (wrap64 (x5 + 1)))) else (none)) else (some false)
def spec_l02Has.f (k : Nat) (l0 : List Int) (a1 : Int) : Option (Bool) := spec_l02Has.l0 k l0 a1 0
theorem spec_l02Has.mono_l : ∀ k, (∀ y0 y1 y2, LeO (spec_l02Has.l0 k y0 y1 y2) (spec_l02Has.l0 (k + 1) y0 y1 y2))
  | 0 => fun _ _ _ r h => by simp [spec_l02Has.l0] at h
  | k + 1 => by
    have ih0 := spec_l02Has.mono_l k
    · intro y0 y1 y2
      unfold spec_l02Has.l0
      repeat' first
      | (with_reducible exact ih0 _ _ _)
      | (with_reducible exact LeO.refl _)
      | (with_reducible exact LeO.none _)
      | (with_reducible refine LeO.ite ?_ ?_)
      | (with_reducible refine LeO.bind ?_ (fun _ => ?_))
      | exact ih0 _ _ _
      | exact LeO.none _
      | refine LeO.ite ?_ ?_
      | refine LeO.bind ?_ (fun _ => ?_)
theorem spec_l02Has.mono : ∀ a0 a1 k, LeO (spec_l02Has.f k a0 a1) (spec_l02Has.f (k + 1) a0 a1) := by
  intro a0 a1 k
  have ih0 := spec_l02Has.mono_l k
  unfold spec_l02Has.f
  repeat' first
      | (with_reducible exact ih0 _ _ _)
      | (with_reducible exact LeO.refl _)
      | (with_reducible exact LeO.none _)
      | (with_reducible refine LeO.ite ?_ ?_)
      | (with_reducible refine LeO.bind ?_ (fun _ => ?_))
      | exact ih0 _ _ _
      | exact LeO.none _
      | refine LeO.ite ?_ ?_
      | refine LeO.bind ?_ (fun _ => ?_)
set_option maxHeartbeats 8000000 in
set_option maxRecDepth 100000 in
theorem spec_l02Has.calls (k : Nat) (A0 : Option Addr) (c0 : Nat) (l0 : List Int) (a1 : Int) (r : Bool) (w : World) (hr0 : Kd.C (Kd.int .i64) w A0 l0.length l0) (hc0 : l0.length ≤ c0) (h : spec_l02Has.f k l0 a1 = some r) :
    Calls Try.prog 86 #[.slice A0 l0.length c0, .int .i64 a1] w fun e w' => e = .returned (.bool r) ∧ Drawn0 w w' := by
  have HR0 := Aside0.mk hr0
  have HC0 := Aside0.mk hc0
  clear hr0 hc0
  have H : (spec_l02Has.l0 k l0 a1 0) = some r := h
  clear h
  have H' := Aside0.mk H
  clear H
  go_enter Try.func86, Try.ntmps86
  go_wp2
  go_loopg [5] k (fun kq v5 w' => ∃ (x5_1 : Int), v5 = .int .i64 x5_1 ∧ Aside0 (spec_l02Has.l0 kq l0 a1 x5_1 = some r) ∧ Aside0 (kq ≤ k) ∧ Drawn0 w w')
  case atStart => exact ⟨(0), (by first | rfl | (simp; done) | (simp [*]; done)), H', ⟨Nat.le_refl _⟩, by repeat (first | exact Drawn0.refl _ | apply Drawn0.step)⟩
  case round =>
    clear H'
    try clear p2
    obtain ⟨x5_1, rfl, HA, HK1, ⟨m1, rfl⟩⟩ := hrel
    cases gk with
    | zero => exact absurd HA.out (by simp [spec_l02Has.l0])
    | succ k1 =>
      have H := HA.out
      clear HA
      simp only [spec_l02Has.l0] at H
      by_cases c3 : x5_1 < (l0.length : Int)
      · rw [if_pos c3] at H
        have c3b0 : decide (x5_1 < (l0.length : Int)) = true := decide_eq_true c3
        clear c3
        by_cases c4 : 0 ≤ x5_1
        · rw [if_pos c4] at H
          have c4b0 : decide (0 ≤ x5_1) = true := decide_eq_true c4
          clear c4
          by_cases c5 : (rd l0 x5_1) = a1
          · rw [if_pos c5] at H
            have c5b0 : ((rd l0 x5_1) == a1) = true := beq_iff_eq.mpr c5
            have c5b1 : ((rd l0 x5_1) != a1) = false := bne_eq_false_iff_eq.mpr c5
            clear c5
            obtain rfl := Option.some.inj H
            have p115 : 0 ≤ (x5_1 : Int) := of_decide_eq_true (by first | (with_reducible assumption) | assumption)
            have q115 : x5_1 < (l0.length : Int) := of_decide_eq_true (by first | (with_reducible assumption) | assumption)
            obtain ⟨ad115, e115, hx115_0⟩ := Kd.at_int HR0.out x5_1 p115 q115
            cases e115
            replace p115 := eq_true p115
            replace q115 := eq_true q115
            go_wp2
            go_ret
            exact ⟨by first | rfl | (simp; done) | (simp [*]; done), by repeat (first | exact Drawn0.refl _ | apply Drawn0.step)⟩
          · rw [if_neg c5] at H
            have c5b0 : ((rd l0 x5_1) == a1) = false := beq_eq_false_iff_ne.mpr c5
            have c5b1 : ((rd l0 x5_1) != a1) = true := bne_iff_ne.mpr c5
            have H' := Aside0.mk H
            clear H
            have p115 : 0 ≤ (x5_1 : Int) := of_decide_eq_true (by first | (with_reducible assumption) | assumption)
            have q115 : x5_1 < (l0.length : Int) := of_decide_eq_true (by first | (with_reducible assumption) | assumption)
            obtain ⟨ad115, e115, hx115_0⟩ := Kd.at_int HR0.out x5_1 p115 q115
            cases e115
            replace p115 := eq_true p115
            replace q115 := eq_true q115
            go_wp2
            go_roundg k1
            case measure => have := HK1.out; omega
            case rel => exact ⟨(wrap64 (x5_1 + 1)), (by first | rfl | (simp; done) | (simp [*]; done)), H', ⟨by have := HK1.out; omega⟩, by repeat (first | exact Drawn0.refl _ | apply Drawn0.step)⟩
        · rw [if_neg c4] at H
          exact absurd H (by simp)
      · rw [if_neg c3] at H
        have c3b0 : decide (x5_1 < (l0.length : Int)) = false := decide_eq_false c3
        clear c3
        obtain rfl := Option.some.inj H
        go_wp2
        go_ret
        exact ⟨by first | rfl | (simp; done) | (simp [*]; done), by repeat (first | exact Drawn0.refl _ | apply Drawn0.step)⟩
def spec_l02Is.f (a0 : Int) (a1 : Int) (a2 : Int) : Option (Bool) := if a0 ≥ a1 then (some (decide (a0 ≤ a2))) else (some false)
set_option maxHeartbeats 8000000 in
set_option maxRecDepth 100000 in
theorem spec_l02Is.calls (a0 : Int) (a1 : Int) (a2 : Int) (r : Bool) (w : World) (h : spec_l02Is.f a0 a1 a2 = some r) :
    Calls Try.prog 73 #[.int .i64 a0, .int .i64 a1, .int .i64 a2] w fun e w' => e = .returned (.bool r) ∧ Drawn0 w w' := by
  have H : (if a0 ≥ a1 then (some (decide (a0 ≤ a2))) else (some false)) = some r := h
  clear h
  by_cases c4 : a0 ≥ a1
  · rw [if_pos c4] at H
    have c4b0 : decide (a1 ≤ a0) = true := decide_eq_true c4
    clear c4
    obtain rfl := Option.some.inj H
    go_enter Try.func73, Try.ntmps73
    go_wp2
    go_ret
    exact ⟨by first | rfl | (simp; done) | (simp [*]; done), by repeat (first | exact Drawn0.refl _ | apply Drawn0.step)⟩
  · rw [if_neg c4] at H
    have c4b0 : decide (a1 ≤ a0) = false := decide_eq_false c4
    clear c4
    obtain rfl := Option.some.inj H
    go_enter Try.func73, Try.ntmps73
    go_wp2
    go_ret
    exact ⟨by first | rfl | (simp; done) | (simp [*]; done), by repeat (first | exact Drawn0.refl _ | apply Drawn0.step)⟩
def spec_l04Node.f (a0 : Int) : Option (Bool) := (spec_l02Is.f a0 1 6).bind fun t116 => (some t116)
set_option maxHeartbeats 8000000 in
set_option maxRecDepth 100000 in
theorem spec_l04Node.calls (a0 : Int) (r : Bool) (w : World) (h : spec_l04Node.f a0 = some r) :
    Calls Try.prog 90 #[.int .i64 a0] w fun e w' => e = .returned (.bool r) ∧ Drawn0 w w' := by
  have H : ((spec_l02Is.f a0 1 6).bind fun t116 => (some t116)) = some r := h
  clear h
  replace H := Option.bind_eq_some_iff.mp H
  obtain ⟨t116, A20, H⟩ := H
  replace H : (some t116) = some r := H
  have A2 := Aside0.mk A20
  clear A20
  obtain rfl := Option.some.inj H
  go_enter Try.func90, Try.ntmps90
  go_wp2_with (first | ((with_reducible refine gate_callee (f := 73) rfl ?_); refine goesL_ (some 4) rfl rfl Try.func73 (by kernel_rfl) rfl #[.int .i64 a0, .int .i64 1, .int .i64 6] rfl (by (try simp only [List.map_toArray, List.map_cons, List.map_nil]); first | done | rfl | (simp only [List.length_drop, List.length_take]; rfl)) ?_; (with_reducible refine (spec_l02Is.calls a0 1 6 t116 _ A2.out).mono ?_); rintro e w' ⟨rfl, ⟨nd, rfl⟩⟩; refine ⟨_, rfl, ?_⟩))
  go_ret
  exact ⟨by first | rfl | (simp; done) | (simp [*]; done), by repeat (first | exact Drawn0.refl _ | apply Drawn0.step)⟩
end Go.Proofs.Ytkgjikjnciihmaa.PFnTurn
