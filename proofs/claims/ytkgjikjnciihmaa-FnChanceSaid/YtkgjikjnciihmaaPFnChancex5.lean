/- Laid by this session's program pp.py (over the kit's printer) out of the translation: Go functions as Lean functions, and that the calls come to them. -/
import Derived.Test.YtkgjikjnciihmaaPFnChancex0
import Derived.Test.YtkgjikjnciihmaaPFnChancex3
namespace Go.Proofs.Ytkgjikjnciihmaa.PFnChance
open Go.RowKit Go.Proofs.YtkgjikjnciihmaaW.PrintWords Go.Proofs.YtkgjikjnciihmaaW.PrintLast Go.Proofs.YtkgjikjnciihmaaW.PrintMore
attribute [local go_sem] max2_int min2_int max_two min_two max_three min_three max_four min_four   -- for this text's walks alone
set_option linter.unusedVariables false
set_option linter.unusedSimpArgs false

/-! ### impl_SetRight: function 48 -/
def impl_SetRight.l0 : Nat → List Int → Int → Option (Bool)
  | 0, _, _ => none
  | k + 1, x0, x3 => if x3 < (x0.length : Int) then (if 0 ≤ x3 then (if 0 ≤ (wrap64 (x3 - 1)) then (if (wrap64 (x3 - 1)) < (x0.length : Int) then (if (rd x0 x3) ≤ (rd x0 (wrap64 (x3 - 1))) then (some false) else (impl_SetRight.l0 k x0 (wrap64 (x3 + 1)))) else (none)) else (none)) else (none)) else ((impl_longList_int64.f x0).bind fun t293 => (some (!t293)))
def impl_SetRight.f (k : Nat) (l0 : List Int) : Option (Bool) := impl_SetRight.l0 k l0 1
theorem impl_SetRight.mono_l : ∀ k, (∀ y0 y1, LeO (impl_SetRight.l0 k y0 y1) (impl_SetRight.l0 (k + 1) y0 y1))
  | 0 => fun _ _ r h => by simp [impl_SetRight.l0] at h
  | k + 1 => by
    have ih0 := impl_SetRight.mono_l k
    · intro y0 y1
      unfold impl_SetRight.l0
      repeat' first
      | (with_reducible exact ih0 _ _)
      | (with_reducible exact LeO.refl _)
      | (with_reducible exact LeO.none _)
      | (with_reducible refine LeO.ite ?_ ?_)
      | (with_reducible refine LeO.bind ?_ (fun _ => ?_))
      | exact ih0 _ _
      | exact LeO.none _
      | refine LeO.ite ?_ ?_
      | refine LeO.bind ?_ (fun _ => ?_)
theorem impl_SetRight.mono : ∀ a0 k, LeO (impl_SetRight.f k a0) (impl_SetRight.f (k + 1) a0) := by
  intro a0 k
  have ih0 := impl_SetRight.mono_l k
  unfold impl_SetRight.f
  repeat' first
      | (with_reducible exact ih0 _ _)
      | (with_reducible exact LeO.refl _)
      | (with_reducible exact LeO.none _)
      | (with_reducible refine LeO.ite ?_ ?_)
      | (with_reducible refine LeO.bind ?_ (fun _ => ?_))
      | exact ih0 _ _
      | exact LeO.none _
      | refine LeO.ite ?_ ?_
      | refine LeO.bind ?_ (fun _ => ?_)
set_option maxHeartbeats 8000000 in
set_option maxRecDepth 100000 in
theorem impl_SetRight.calls (k : Nat) (A0 : Option Addr) (c0 : Nat) (l0 : List Int) (r : Bool) (w : World) (hr0 : Kd.C (Kd.int .i64) w A0 l0.length l0) (hc0 : l0.length ≤ c0) (h : impl_SetRight.f k l0 = some r) :
    Calls Try.prog 48 #[.slice A0 l0.length c0] w fun e w' => e = .returned (.bool r) ∧ Drawn0 w w' := by
  have HR0 := Aside0.mk hr0
  have HC0 := Aside0.mk hc0
  clear hr0 hc0
  have H : (impl_SetRight.l0 k l0 1) = some r := h
  clear h
  have H' := Aside0.mk H
  clear H
  go_enter Try.func48, Try.ntmps48
  go_wp2
  repeat (go_quiet (fail); try go_wp2)
  go_loopg [3] k (fun kq v3 w' => ∃ (x3_1 : Int), v3 = .int .i64 x3_1 ∧ Aside0 (impl_SetRight.l0 kq l0 x3_1 = some r) ∧ Aside0 (kq ≤ k) ∧ Drawn0 w w')
  case atStart => exact ⟨(1), (by first | rfl | (simp; done) | (simp [*]; done)), H', ⟨Nat.le_refl _⟩, by repeat (first | exact Drawn0.refl _ | apply Drawn0.step)⟩
  case round =>
    clear H'
    obtain ⟨x3_1, rfl, HA, HK1, ⟨m1, rfl⟩⟩ := hrel
    cases gk with
    | zero => exact absurd HA.out (by simp [impl_SetRight.l0])
    | succ k1 =>
      have H := HA.out
      clear HA
      simp only [impl_SetRight.l0] at H
      by_cases c2 : x3_1 < (l0.length : Int)
      · rw [if_pos c2] at H
        have c2b0 : decide (x3_1 < (l0.length : Int)) = true := decide_eq_true c2
        clear c2
        by_cases c3 : 0 ≤ x3_1
        · rw [if_pos c3] at H
          have c3b0 : decide (0 ≤ x3_1) = true := decide_eq_true c3
          clear c3
          obtain ⟨ji4, hji4⟩ : ∃ j_ : Int, (wrap64 (x3_1 - 1)) = j_ := ⟨_, rfl⟩
          replace H : (if 0 ≤ (ji4) then (if (ji4) < (l0.length : Int) then (if (rd l0 x3_1) ≤ (rd l0 (ji4)) then (some false) else (impl_SetRight.l0 k1 l0 (wrap64 (x3_1 + 1)))) else (none)) else (none)) = some r := by first | (rw [hji4] at H; exact H) | (simp only [hji4] at H ⊢; exact H)
          have hji4w : (IntKind.i64.wrap (x3_1 - 1)) = ji4 := (i64_w _).trans hji4
          by_cases c5 : 0 ≤ (ji4)
          · rw [if_pos c5] at H
            have c5b0 : decide (0 ≤ (ji4)) = true := decide_eq_true c5
            clear c5
            by_cases c6 : (ji4) < (l0.length : Int)
            · rw [if_pos c6] at H
              have c6b0 : decide ((ji4) < (l0.length : Int)) = true := decide_eq_true c6
              clear c6
              by_cases c7 : (rd l0 x3_1) ≤ (rd l0 (ji4))
              · rw [if_pos c7] at H
                have c7b0 : decide ((rd l0 x3_1) ≤ (rd l0 (ji4))) = true := decide_eq_true c7
                clear c7
                obtain rfl := Option.some.inj H
                have p291 : 0 ≤ (x3_1 : Int) := of_decide_eq_true (by first | (with_reducible assumption) | assumption)
                have q291 : x3_1 < (l0.length : Int) := of_decide_eq_true (by first | (with_reducible assumption) | assumption)
                obtain ⟨ad291, e291, hx291_0⟩ := Kd.at_int HR0.out x3_1 p291 q291
                cases e291
                replace p291 := eq_true p291
                replace q291 := eq_true q291
                have p292 : 0 ≤ ((ji4) : Int) := of_decide_eq_true (by first | (with_reducible assumption) | assumption)
                have q292 : (ji4) < (l0.length : Int) := of_decide_eq_true (by first | (with_reducible assumption) | assumption)
                obtain ⟨ad292, e292, hx292_0⟩ := Kd.at_int HR0.out (ji4) p292 q292
                obtain rfl : ad291 = ad292 := (by injection e292)
                replace p292 := eq_true p292
                replace q292 := eq_true q292
                go_wp2
                repeat (go_quiet (fail); try go_wp2)
                go_ret
                exact ⟨by first | rfl | (simp; done) | (simp only [← hji4] <;> (first | rfl | simp)) | (simp [*]; done), by repeat (first | exact Drawn0.refl _ | apply Drawn0.step)⟩
              · rw [if_neg c7] at H
                have c7b0 : decide ((rd l0 x3_1) ≤ (rd l0 (ji4))) = false := decide_eq_false c7
                clear c7
                have H' := Aside0.mk H
                clear H
                have p291 : 0 ≤ (x3_1 : Int) := of_decide_eq_true (by first | (with_reducible assumption) | assumption)
                have q291 : x3_1 < (l0.length : Int) := of_decide_eq_true (by first | (with_reducible assumption) | assumption)
                obtain ⟨ad291, e291, hx291_0⟩ := Kd.at_int HR0.out x3_1 p291 q291
                cases e291
                replace p291 := eq_true p291
                replace q291 := eq_true q291
                have p292 : 0 ≤ ((ji4) : Int) := of_decide_eq_true (by first | (with_reducible assumption) | assumption)
                have q292 : (ji4) < (l0.length : Int) := of_decide_eq_true (by first | (with_reducible assumption) | assumption)
                obtain ⟨ad292, e292, hx292_0⟩ := Kd.at_int HR0.out (ji4) p292 q292
                obtain rfl : ad291 = ad292 := (by injection e292)
                replace p292 := eq_true p292
                replace q292 := eq_true q292
                go_wp2
                repeat (go_quiet (fail); try go_wp2)
                go_roundg k1
                case measure => have := HK1.out; omega
                case rel => exact ⟨(wrap64 (x3_1 + 1)), (by first | rfl | (simp; done) | (simp [*]; done)), H', ⟨by have := HK1.out; omega⟩, by repeat (first | exact Drawn0.refl _ | apply Drawn0.step)⟩
            · rw [if_neg c6] at H
              exact absurd H (by simp)
          · rw [if_neg c5] at H
            exact absurd H (by simp)
        · rw [if_neg c3] at H
          exact absurd H (by simp)
      · rw [if_neg c2] at H
        have c2b0 : decide (x3_1 < (l0.length : Int)) = false := decide_eq_false c2
        clear c2
        replace H := Option.bind_eq_some_iff.mp H
        obtain ⟨t293, A80, H⟩ := H
        replace H : (some (!t293)) = some r := H
        have A8 := Aside0.mk A80
        clear A80
        obtain rfl := Option.some.inj H
        go_wp2_with (first | (go_at_call 66; (with_reducible refine (impl_longList_int64.calls _ _ l0 t293 _ ?side1 ?side2 A8.out).mono ?_); (case side1 => repeat (first | exact HR0.out | (with_reducible refine Kd.C_alloc ?_ _) | (with_reducible refine Kd.C_drewN ?_ _) | (with_reducible refine Kd.C_drew ?_))); (case side2 => exact HC0.out); rintro e w' ⟨rfl, ⟨nd, rfl⟩⟩; (try first | exact ⟨rfl, _, World.drewN_drewN _ _ _⟩ | exact ⟨rfl, _, Eq.trans (World.drewN_drewN _ _ _) (congrArg (World.drewN _) (Nat.add_assoc _ _ _))⟩)))
        repeat (go_quiet (first | (go_at_call 66; (with_reducible refine (impl_longList_int64.calls _ _ l0 t293 _ ?side1 ?side2 A8.out).mono ?_); (case side1 => repeat (first | exact HR0.out | (with_reducible refine Kd.C_alloc ?_ _) | (with_reducible refine Kd.C_drewN ?_ _) | (with_reducible refine Kd.C_drew ?_))); (case side2 => exact HC0.out); rintro e w' ⟨rfl, ⟨nd, rfl⟩⟩; (try first | exact ⟨rfl, _, World.drewN_drewN _ _ _⟩ | exact ⟨rfl, _, Eq.trans (World.drewN_drewN _ _ _) (congrArg (World.drewN _) (Nat.add_assoc _ _ _))⟩))); try go_wp2_with (first | (go_at_call 66; (with_reducible refine (impl_longList_int64.calls _ _ l0 t293 _ ?side1 ?side2 A8.out).mono ?_); (case side1 => repeat (first | exact HR0.out | (with_reducible refine Kd.C_alloc ?_ _) | (with_reducible refine Kd.C_drewN ?_ _) | (with_reducible refine Kd.C_drew ?_))); (case side2 => exact HC0.out); rintro e w' ⟨rfl, ⟨nd, rfl⟩⟩; (try first | exact ⟨rfl, _, World.drewN_drewN _ _ _⟩ | exact ⟨rfl, _, Eq.trans (World.drewN_drewN _ _ _) (congrArg (World.drewN _) (Nat.add_assoc _ _ _))⟩))))
        go_ret
        exact ⟨by first | rfl | (simp; done) | (simp [*]; done), by repeat (first | exact Drawn0.refl _ | apply Drawn0.step)⟩

/-! ### cmp_isNaN_int64: function 100 -/
def cmp_isNaN_int64.f (a0 : Int) : Option (Bool) := some (a0 != a0)
set_option maxHeartbeats 8000000 in
set_option maxRecDepth 100000 in
theorem cmp_isNaN_int64.calls (a0 : Int) (r : Bool) (w : World) (h : cmp_isNaN_int64.f a0 = some r) :
    Calls Try.prog 100 #[.int .i64 a0] w fun e w' => e = .returned (.bool r) ∧ Drawn0 w w' := by
  have H : (some (a0 != a0)) = some r := h
  clear h
  obtain rfl := Option.some.inj H
  go_enter Try.func100, Try.ntmps100
  go_wp2
  go_ret
  exact ⟨by first | rfl | (simp; done) | (simp [*]; done), by repeat (first | exact Drawn0.refl _ | apply Drawn0.step)⟩

/-! ### cmp_Less_int64: function 93 -/
def cmp_Less_int64.f (a0 : Int) (a1 : Int) : Option (Bool) := (cmp_isNaN_int64.f a0).bind fun t294 => (if t294 = true then ((cmp_isNaN_int64.f a1).bind fun t295 => (if t295 = true then (some (decide (a0 < a1))) else (some true))) else (some (decide (a0 < a1))))
set_option maxHeartbeats 8000000 in
set_option maxRecDepth 100000 in
theorem cmp_Less_int64.calls (a0 : Int) (a1 : Int) (r : Bool) (w : World) (h : cmp_Less_int64.f a0 a1 = some r) :
    Calls Try.prog 93 #[.int .i64 a0, .int .i64 a1] w fun e w' => e = .returned (.bool r) ∧ Drawn0 w w' := by
  have H : ((cmp_isNaN_int64.f a0).bind fun t294 => (if t294 = true then ((cmp_isNaN_int64.f a1).bind fun t295 => (if t295 = true then (some (decide (a0 < a1))) else (some true))) else (some (decide (a0 < a1))))) = some r := h
  clear h
  replace H := Option.bind_eq_some_iff.mp H
  obtain ⟨t294, A30, H⟩ := H
  replace H : (if t294 = true then ((cmp_isNaN_int64.f a1).bind fun t295 => (if t295 = true then (some (decide (a0 < a1))) else (some true))) else (some (decide (a0 < a1)))) = some r := H
  have A3 := Aside0.mk A30
  clear A30
  by_cases c4 : t294 = true
  · subst c4
    have H1 : ((cmp_isNaN_int64.f a1).bind fun t295 => (if t295 = true then (some (decide (a0 < a1))) else (some true))) = some r := by rw [if_pos rfl] at H; exact H
    clear H
    have H := H1
    clear H1
    replace H := Option.bind_eq_some_iff.mp H
    obtain ⟨t295, A50, H⟩ := H
    replace H : (if t295 = true then (some (decide (a0 < a1))) else (some true)) = some r := H
    have A5 := Aside0.mk A50
    clear A50
    by_cases c6 : t295 = true
    · subst c6
      have H1 : (some (decide (a0 < a1))) = some r := by rw [if_pos rfl] at H; exact H
      clear H
      have H := H1
      clear H1
      obtain rfl := Option.some.inj H
      go_enter Try.func93, Try.ntmps93
      go_wp2_with (first | ((with_reducible refine gate_callee (f := 100) rfl ?_); refine goesL_ (some 6) rfl rfl Try.func100 (by kernel_rfl) rfl #[.int .i64 a0] rfl (by (try simp only [List.map_toArray, List.map_cons, List.map_nil]); first | done | rfl | (simp only [List.length_drop, List.length_take]; rfl)) ?_; (with_reducible refine (cmp_isNaN_int64.calls a0 true _ A3.out).mono ?_); rintro e w' ⟨rfl, ⟨nd, rfl⟩⟩; refine ⟨_, rfl, ?_⟩) | (go_at_call 100; (with_reducible refine (cmp_isNaN_int64.calls a1 true _ A5.out).mono ?_); rintro e w' ⟨rfl, ⟨nd, rfl⟩⟩))
      go_ret
      exact ⟨by first | rfl | (simp; done) | (simp [*]; done), by repeat (first | exact Drawn0.refl _ | apply Drawn0.step)⟩
    · replace c6 := Bool.eq_false_iff.mpr c6
      subst c6
      have H1 : (some true) = some r := by rw [if_neg (show ¬ (false = true) by decide)] at H; exact H
      clear H
      have H := H1
      clear H1
      obtain rfl := Option.some.inj H
      go_enter Try.func93, Try.ntmps93
      go_wp2_with (first | ((with_reducible refine gate_callee (f := 100) rfl ?_); refine goesL_ (some 6) rfl rfl Try.func100 (by kernel_rfl) rfl #[.int .i64 a0] rfl (by (try simp only [List.map_toArray, List.map_cons, List.map_nil]); first | done | rfl | (simp only [List.length_drop, List.length_take]; rfl)) ?_; (with_reducible refine (cmp_isNaN_int64.calls a0 true _ A3.out).mono ?_); rintro e w' ⟨rfl, ⟨nd, rfl⟩⟩; refine ⟨_, rfl, ?_⟩) | (go_at_call 100; (with_reducible refine (cmp_isNaN_int64.calls a1 false _ A5.out).mono ?_); rintro e w' ⟨rfl, ⟨nd, rfl⟩⟩))
      go_ret
      exact ⟨by first | rfl | (simp; done) | (simp [*]; done), by repeat (first | exact Drawn0.refl _ | apply Drawn0.step)⟩
  · replace c4 := Bool.eq_false_iff.mpr c4
    subst c4
    have H1 : (some (decide (a0 < a1))) = some r := by rw [if_neg (show ¬ (false = true) by decide)] at H; exact H
    clear H
    have H := H1
    clear H1
    obtain rfl := Option.some.inj H
    go_enter Try.func93, Try.ntmps93
    go_wp2_with (first | ((with_reducible refine gate_callee (f := 100) rfl ?_); refine goesL_ (some 6) rfl rfl Try.func100 (by kernel_rfl) rfl #[.int .i64 a0] rfl (by (try simp only [List.map_toArray, List.map_cons, List.map_nil]); first | done | rfl | (simp only [List.length_drop, List.length_take]; rfl)) ?_; (with_reducible refine (cmp_isNaN_int64.calls a0 false _ A3.out).mono ?_); rintro e w' ⟨rfl, ⟨nd, rfl⟩⟩; refine ⟨_, rfl, ?_⟩))
    go_ret
    exact ⟨by first | rfl | (simp; done) | (simp [*]; done), by repeat (first | exact Drawn0.refl _ | apply Drawn0.step)⟩

/-! ### slices_isNaN_int64: function 94 -/
def slices_isNaN_int64.f (a0 : Int) : Option (Bool) := some (a0 != a0)
set_option maxHeartbeats 8000000 in
set_option maxRecDepth 100000 in
theorem slices_isNaN_int64.calls (a0 : Int) (r : Bool) (w : World) (h : slices_isNaN_int64.f a0 = some r) :
    Calls Try.prog 94 #[.int .i64 a0] w fun e w' => e = .returned (.bool r) ∧ Drawn0 w w' := by
  have H : (some (a0 != a0)) = some r := h
  clear h
  obtain rfl := Option.some.inj H
  go_enter Try.func94, Try.ntmps94
  go_wp2
  go_ret
  exact ⟨by first | rfl | (simp; done) | (simp [*]; done), by repeat (first | exact Drawn0.refl _ | apply Drawn0.step)⟩

/-! ### slices_BinarySearch_int64_int64: function 80 -/
def slices_BinarySearch_int64_int64.l0 : Nat → List Int → Int → Int → Int → Int → Option (Int × Bool)
  | 0, _, _, _, _, _ => none
  | k + 1, x0, x1, x6, x7, x8 => if x7 < x8 then (if 0 ≤ (wrap64 ((IntKind.u64.wrap (wrap64 (x7 + x8))) / 2)) then (if (wrap64 ((IntKind.u64.wrap (wrap64 (x7 + x8))) / 2)) < (x0.length : Int) then ((cmp_Less_int64.f (rd x0 (wrap64 ((IntKind.u64.wrap (wrap64 (x7 + x8))) / 2))) x1).bind fun t297 => (if t297 = true then (slices_BinarySearch_int64_int64.l0 k x0 x1 x6 (wrap64 ((wrap64 ((IntKind.u64.wrap (wrap64 (x7 + x8))) / 2)) + 1)) x8) else (slices_BinarySearch_int64_int64.l0 k x0 x1 x6 x7 (wrap64 ((IntKind.u64.wrap (wrap64 (x7 + x8))) / 2))))) else (none)) else (none)) else (if x7 < x6 then (if 0 ≤ x7 then (if x7 < (x0.length : Int) then (if (rd x0 x7) = x1 then (some (x7, true)) else ((slices_isNaN_int64.f (rd x0 x7)).bind fun t300 => (if t300 = true then ((slices_isNaN_int64.f x1).bind fun t301 => (some (x7, t301))) else (some (x7, false))))) else (none)) else (none)) else (some (x7, false)))
def slices_BinarySearch_int64_int64.f (k : Nat) (l0 : List Int) (a1 : Int) : Option (Int × Bool) := slices_BinarySearch_int64_int64.l0 k l0 a1 (l0.length : Int) 0 (l0.length : Int)
theorem slices_BinarySearch_int64_int64.mono_l : ∀ k, (∀ y0 y1 y2 y3 y4, LeO (slices_BinarySearch_int64_int64.l0 k y0 y1 y2 y3 y4) (slices_BinarySearch_int64_int64.l0 (k + 1) y0 y1 y2 y3 y4))
  | 0 => fun _ _ _ _ _ r h => by simp [slices_BinarySearch_int64_int64.l0] at h
  | k + 1 => by
    have ih0 := slices_BinarySearch_int64_int64.mono_l k
    · intro y0 y1 y2 y3 y4
      unfold slices_BinarySearch_int64_int64.l0
      repeat' first
      | (with_reducible exact ih0 _ _ _ _ _)
      | (with_reducible exact LeO.refl _)
      | (with_reducible exact LeO.none _)
      | (with_reducible refine LeO.ite ?_ ?_)
      | (with_reducible refine LeO.bind ?_ (fun _ => ?_))
      | exact ih0 _ _ _ _ _
      | exact LeO.none _
      | refine LeO.ite ?_ ?_
      | refine LeO.bind ?_ (fun _ => ?_)
theorem slices_BinarySearch_int64_int64.mono : ∀ a0 a1 k, LeO (slices_BinarySearch_int64_int64.f k a0 a1) (slices_BinarySearch_int64_int64.f (k + 1) a0 a1) := by
  intro a0 a1 k
  have ih0 := slices_BinarySearch_int64_int64.mono_l k
  unfold slices_BinarySearch_int64_int64.f
  repeat' first
      | (with_reducible exact ih0 _ _ _ _ _)
      | (with_reducible exact LeO.refl _)
      | (with_reducible exact LeO.none _)
      | (with_reducible refine LeO.ite ?_ ?_)
      | (with_reducible refine LeO.bind ?_ (fun _ => ?_))
      | exact ih0 _ _ _ _ _
      | exact LeO.none _
      | refine LeO.ite ?_ ?_
      | refine LeO.bind ?_ (fun _ => ?_)
set_option maxHeartbeats 8000000 in
set_option maxRecDepth 100000 in
theorem slices_BinarySearch_int64_int64.calls (k : Nat) (A0 : Option Addr) (c0 : Nat) (l0 : List Int) (a1 : Int) (r1 : Int) (r2 : Bool) (w : World) (hr0 : Kd.C (Kd.int .i64) w A0 l0.length l0) (hc0 : l0.length ≤ c0) (h : slices_BinarySearch_int64_int64.f k l0 a1 = some (r1, r2)) :
    Calls Try.prog 80 #[.slice A0 l0.length c0, .int .i64 a1] w fun e w' => e = .returned (.tuple #[.int .i64 r1, .bool r2]) ∧ Drawn0 w w' := by
  have HR0 := Aside0.mk hr0
  have HC0 := Aside0.mk hc0
  clear hr0 hc0
  have H : (slices_BinarySearch_int64_int64.l0 k l0 a1 (l0.length : Int) 0 (l0.length : Int)) = some (r1, r2) := h
  clear h
  have H' := Aside0.mk H
  clear H
  go_enter Try.func80, Try.ntmps80
  go_wp2
  go_loopg [7, 8] k (fun kq v7 v8 w' => ∃ (x7_1 : Int) (x8_1 : Int), v7 = .int .i64 x7_1 ∧ v8 = .int .i64 x8_1 ∧ Aside0 (slices_BinarySearch_int64_int64.l0 kq l0 a1 (l0.length : Int) x7_1 x8_1 = some (r1, r2)) ∧ Aside0 (kq ≤ k) ∧ Drawn0 w w')
  case atStart => exact ⟨(0), ((l0.length : Int)), (by first | rfl | (simp; done) | (simp [*]; done)), (by first | rfl | (simp; done) | (simp [*]; done)), H', ⟨Nat.le_refl _⟩, by repeat (first | exact Drawn0.refl _ | apply Drawn0.step)⟩
  case round =>
    clear H'
    try clear p2
    obtain ⟨x7_1, x8_1, rfl, rfl, HA, HK1, ⟨m1, rfl⟩⟩ := hrel
    cases gk with
    | zero => exact absurd HA.out (by simp [slices_BinarySearch_int64_int64.l0])
    | succ k1 =>
      have H := HA.out
      clear HA
      simp only [slices_BinarySearch_int64_int64.l0] at H
      by_cases c3 : x7_1 < x8_1
      · rw [if_pos c3] at H
        have c3b0 : decide (x7_1 < x8_1) = true := decide_eq_true c3
        clear c3
        obtain ⟨ji4, hji4⟩ : ∃ j_ : Int, (wrap64 ((IntKind.u64.wrap (wrap64 (x7_1 + x8_1))) / 2)) = j_ := ⟨_, rfl⟩
        replace H : (if 0 ≤ (ji4) then (if (ji4) < (l0.length : Int) then ((cmp_Less_int64.f (rd l0 (ji4)) a1).bind fun t297 => (if t297 = true then (slices_BinarySearch_int64_int64.l0 k1 l0 a1 (l0.length : Int) (wrap64 ((ji4) + 1)) x8_1) else (slices_BinarySearch_int64_int64.l0 k1 l0 a1 (l0.length : Int) x7_1 ji4))) else (none)) else (none)) = some (r1, r2) := by first | (rw [hji4] at H; exact H) | (simp only [hji4] at H ⊢; exact H)
        have hji4w : (IntKind.i64.wrap ((IntKind.u64.wrap (wrap64 (x7_1 + x8_1))) / 2)) = ji4 := (i64_w _).trans hji4
        by_cases c5 : 0 ≤ (ji4)
        · rw [if_pos c5] at H
          have c5b0 : decide (0 ≤ (ji4)) = true := decide_eq_true c5
          clear c5
          by_cases c6 : (ji4) < (l0.length : Int)
          · rw [if_pos c6] at H
            have c6b0 : decide ((ji4) < (l0.length : Int)) = true := decide_eq_true c6
            clear c6
            replace H := Option.bind_eq_some_iff.mp H
            obtain ⟨t297, A70, H⟩ := H
            replace H : (if t297 = true then (slices_BinarySearch_int64_int64.l0 k1 l0 a1 (l0.length : Int) (wrap64 ((ji4) + 1)) x8_1) else (slices_BinarySearch_int64_int64.l0 k1 l0 a1 (l0.length : Int) x7_1 ji4)) = some (r1, r2) := H
            have A7 := Aside0.mk A70
            clear A70
            by_cases c8 : t297 = true
            · subst c8
              have H1 : (slices_BinarySearch_int64_int64.l0 k1 l0 a1 (l0.length : Int) (wrap64 ((ji4) + 1)) x8_1) = some (r1, r2) := by rw [if_pos rfl] at H; exact H
              clear H
              have H := H1
              clear H1
              have H' := Aside0.mk H
              clear H
              have p296 : 0 ≤ ((ji4) : Int) := of_decide_eq_true (by first | (with_reducible assumption) | assumption)
              have q296 : (ji4) < (l0.length : Int) := of_decide_eq_true (by first | (with_reducible assumption) | assumption)
              obtain ⟨ad296, e296, hx296_0⟩ := Kd.at_int HR0.out (ji4) p296 q296
              cases e296
              replace p296 := eq_true p296
              replace q296 := eq_true q296
              go_wp2_with (first | ((with_reducible refine gate_callee (f := 93) rfl ?_); refine goesL_ (some 27) rfl rfl Try.func93 (by kernel_rfl) rfl #[.int .i64 (rd l0 (ji4)), .int .i64 a1] rfl (by (try simp only [List.map_toArray, List.map_cons, List.map_nil]); first | done | (simp only [hji4]; rfl) | rfl | (simp only [List.length_drop, List.length_take]; rfl)) ?_; (with_reducible refine (cmp_Less_int64.calls (rd l0 (ji4)) a1 true _ A7.out).mono ?_); rintro e w' ⟨rfl, ⟨nd, rfl⟩⟩; refine ⟨_, rfl, ?_⟩))
              go_roundg k1
              case measure => have := HK1.out; omega
              case rel => exact ⟨(wrap64 ((ji4) + 1)), (x8_1), (by first | rfl | (simp; done) | (simp only [← hji4] <;> (first | rfl | simp)) | (simp [*]; done)), (by first | rfl | (simp; done) | (simp [*]; done)), H', ⟨by have := HK1.out; omega⟩, by repeat (first | exact Drawn0.refl _ | apply Drawn0.step)⟩
            · replace c8 := Bool.eq_false_iff.mpr c8
              subst c8
              have H1 : (slices_BinarySearch_int64_int64.l0 k1 l0 a1 (l0.length : Int) x7_1 ji4) = some (r1, r2) := by rw [if_neg (show ¬ (false = true) by decide)] at H; exact H
              clear H
              have H := H1
              clear H1
              have H' := Aside0.mk H
              clear H
              have p296 : 0 ≤ ((ji4) : Int) := of_decide_eq_true (by first | (with_reducible assumption) | assumption)
              have q296 : (ji4) < (l0.length : Int) := of_decide_eq_true (by first | (with_reducible assumption) | assumption)
              obtain ⟨ad296, e296, hx296_0⟩ := Kd.at_int HR0.out (ji4) p296 q296
              cases e296
              replace p296 := eq_true p296
              replace q296 := eq_true q296
              go_wp2_with (first | ((with_reducible refine gate_callee (f := 93) rfl ?_); refine goesL_ (some 27) rfl rfl Try.func93 (by kernel_rfl) rfl #[.int .i64 (rd l0 (ji4)), .int .i64 a1] rfl (by (try simp only [List.map_toArray, List.map_cons, List.map_nil]); first | done | (simp only [hji4]; rfl) | rfl | (simp only [List.length_drop, List.length_take]; rfl)) ?_; (with_reducible refine (cmp_Less_int64.calls (rd l0 (ji4)) a1 false _ A7.out).mono ?_); rintro e w' ⟨rfl, ⟨nd, rfl⟩⟩; refine ⟨_, rfl, ?_⟩))
              go_roundg k1
              case measure => have := HK1.out; omega
              case rel => exact ⟨(x7_1), (ji4), (by first | rfl | (simp; done) | (simp [*]; done)), (by first | rfl | (simp; done) | (simp only [← hji4] <;> (first | rfl | simp)) | (simp [*]; done)), H', ⟨by have := HK1.out; omega⟩, by repeat (first | exact Drawn0.refl _ | apply Drawn0.step)⟩
          · rw [if_neg c6] at H
            exact absurd H (by simp)
        · rw [if_neg c5] at H
          exact absurd H (by simp)
      · rw [if_neg c3] at H
        have c3b0 : decide (x7_1 < x8_1) = false := decide_eq_false c3
        clear c3
        by_cases c9 : x7_1 < (l0.length : Int)
        · rw [if_pos c9] at H
          have c9b0 : decide (x7_1 < (l0.length : Int)) = true := decide_eq_true c9
          clear c9
          by_cases c10 : 0 ≤ x7_1
          · rw [if_pos c10] at H
            have c10b0 : decide (0 ≤ x7_1) = true := decide_eq_true c10
            clear c10
            by_cases c11 : x7_1 < (l0.length : Int)
            · rw [if_pos c11] at H
              have c11b0 : decide (x7_1 < (l0.length : Int)) = true := decide_eq_true c11
              clear c11
              by_cases c12 : (rd l0 x7_1) = a1
              · rw [if_pos c12] at H
                have c12b0 : ((rd l0 x7_1) == a1) = true := beq_iff_eq.mpr c12
                have c12b1 : ((rd l0 x7_1) != a1) = false := bne_eq_false_iff_eq.mpr c12
                clear c12
                simp only [Option.some.injEq, Prod.mk.injEq] at H
                obtain ⟨rfl, rfl⟩ := H
                have p298 : 0 ≤ (x7_1 : Int) := of_decide_eq_true (by first | (with_reducible assumption) | assumption)
                have q298 : x7_1 < (l0.length : Int) := of_decide_eq_true (by first | (with_reducible assumption) | assumption)
                obtain ⟨ad298, e298, hx298_0⟩ := Kd.at_int HR0.out x7_1 p298 q298
                cases e298
                replace p298 := eq_true p298
                replace q298 := eq_true q298
                go_wp2
                go_ret2
                exact ⟨by first | rfl | (simp; done) | (simp [*]; done), by repeat (first | exact Drawn0.refl _ | apply Drawn0.step)⟩
              · rw [if_neg c12] at H
                have c12b0 : ((rd l0 x7_1) == a1) = false := beq_eq_false_iff_ne.mpr c12
                have c12b1 : ((rd l0 x7_1) != a1) = true := bne_iff_ne.mpr c12
                replace H := Option.bind_eq_some_iff.mp H
                obtain ⟨t300, A130, H⟩ := H
                replace H : (if t300 = true then ((slices_isNaN_int64.f a1).bind fun t301 => (some (x7_1, t301))) else (some (x7_1, false))) = some (r1, r2) := H
                have A13 := Aside0.mk A130
                clear A130
                by_cases c14 : t300 = true
                · subst c14
                  have H1 : ((slices_isNaN_int64.f a1).bind fun t301 => (some (x7_1, t301))) = some (r1, r2) := by rw [if_pos rfl] at H; exact H
                  clear H
                  have H := H1
                  clear H1
                  replace H := Option.bind_eq_some_iff.mp H
                  obtain ⟨t301, A150, H⟩ := H
                  replace H : (some (x7_1, t301)) = some (r1, r2) := H
                  have A15 := Aside0.mk A150
                  clear A150
                  simp only [Option.some.injEq, Prod.mk.injEq] at H
                  obtain ⟨rfl, rfl⟩ := H
                  have p298 : 0 ≤ (x7_1 : Int) := of_decide_eq_true (by first | (with_reducible assumption) | assumption)
                  have q298 : x7_1 < (l0.length : Int) := of_decide_eq_true (by first | (with_reducible assumption) | assumption)
                  obtain ⟨ad298, e298, hx298_0⟩ := Kd.at_int HR0.out x7_1 p298 q298
                  cases e298
                  replace p298 := eq_true p298
                  replace q298 := eq_true q298
                  have p299 : 0 ≤ (x7_1 : Int) := of_decide_eq_true (by first | (with_reducible assumption) | assumption)
                  have q299 : x7_1 < (l0.length : Int) := of_decide_eq_true (by first | (with_reducible assumption) | assumption)
                  obtain ⟨ad299, e299, hx299_0⟩ := Kd.at_int HR0.out x7_1 p299 q299
                  obtain rfl : ad298 = ad299 := (by injection e299)
                  replace p299 := eq_true p299
                  replace q299 := eq_true q299
                  go_wp2_with (first | (go_at_call 94; (with_reducible refine (slices_isNaN_int64.calls (rd l0 x7_1) true _ A13.out).mono ?_); rintro e w' ⟨rfl, ⟨nd, rfl⟩⟩) | (go_at_call 94; (with_reducible refine (slices_isNaN_int64.calls a1 t301 _ A15.out).mono ?_); rintro e w' ⟨rfl, ⟨nd, rfl⟩⟩))
                  go_ret2
                  exact ⟨by first | rfl | (simp; done) | (simp [*]; done), by repeat (first | exact Drawn0.refl _ | apply Drawn0.step)⟩
                · replace c14 := Bool.eq_false_iff.mpr c14
                  subst c14
                  have H1 : (some (x7_1, false)) = some (r1, r2) := by rw [if_neg (show ¬ (false = true) by decide)] at H; exact H
                  clear H
                  have H := H1
                  clear H1
                  simp only [Option.some.injEq, Prod.mk.injEq] at H
                  obtain ⟨rfl, rfl⟩ := H
                  have p298 : 0 ≤ (x7_1 : Int) := of_decide_eq_true (by first | (with_reducible assumption) | assumption)
                  have q298 : x7_1 < (l0.length : Int) := of_decide_eq_true (by first | (with_reducible assumption) | assumption)
                  obtain ⟨ad298, e298, hx298_0⟩ := Kd.at_int HR0.out x7_1 p298 q298
                  cases e298
                  replace p298 := eq_true p298
                  replace q298 := eq_true q298
                  have p299 : 0 ≤ (x7_1 : Int) := of_decide_eq_true (by first | (with_reducible assumption) | assumption)
                  have q299 : x7_1 < (l0.length : Int) := of_decide_eq_true (by first | (with_reducible assumption) | assumption)
                  obtain ⟨ad299, e299, hx299_0⟩ := Kd.at_int HR0.out x7_1 p299 q299
                  obtain rfl : ad298 = ad299 := (by injection e299)
                  replace p299 := eq_true p299
                  replace q299 := eq_true q299
                  go_wp2_with (first | (go_at_call 94; (with_reducible refine (slices_isNaN_int64.calls (rd l0 x7_1) false _ A13.out).mono ?_); rintro e w' ⟨rfl, ⟨nd, rfl⟩⟩))
                  go_ret2
                  exact ⟨by first | rfl | (simp; done) | (simp [*]; done), by repeat (first | exact Drawn0.refl _ | apply Drawn0.step)⟩
            · rw [if_neg c11] at H
              exact absurd H (by simp)
          · rw [if_neg c10] at H
            exact absurd H (by simp)
        · rw [if_neg c9] at H
          have c9b0 : decide (x7_1 < (l0.length : Int)) = false := decide_eq_false c9
          clear c9
          simp only [Option.some.injEq, Prod.mk.injEq] at H
          obtain ⟨rfl, rfl⟩ := H
          go_wp2
          go_ret2
          exact ⟨by first | rfl | (simp; done) | (simp [*]; done), by repeat (first | exact Drawn0.refl _ | apply Drawn0.step)⟩

/-! ### impl_SetPut: function 41, by a template -/
/-! #### slices.Insert: function 81: one element put at place i of a row of the call's own -/
set_option maxHeartbeats 8000000 in
set_option maxRecDepth 100000 in
theorem impl_SetPut.ins_end (v : Value) (l0 : List Int) (x : Int) (cx : List Value) (bx base : Nat) (w : World) (hR : Kd.R (Kd.int .i64) 2 w base (fun _ => True) v l0) (hcx : cx.length = 1) (hx : ∀ W b okp, Kd.M (Kd.int .i64) W b okp x cx)
    (hbx : w.heap[bx]? = some (.cells cx.toArray 2 (0, 0))) (hbase : base ≤ w.heap.size) (hl : l0.length ≤ 1048576) :
    Calls Try.prog 81 #[v, .int .i64 (l0.length : Int), .slice (some ⟨bx, 0, none⟩) 1 1] w fun e w' => ∃ v' : Value, e = .returned v' ∧ Kd.R (Kd.int .i64) 2 w' base (fun _ => True) v' (l0 ++ [x]) ∧ Below base w w' := by
  obtain ⟨A, c, rfl⟩ := Kd.R_slice hR
  have HC := Aside0.mk (Go.Proofs.YtkgjikjnciihmaaH.C_one (d := (Kd.int .i64)) (w := w) (e := 2) hcx ((Kd.K_of_M _) (hx w base (fun _ => True))) hbx)
  have hlc := (Kd.R_reads' hR).2.1
  have hlcz : (l0.length : Int) ≤ (c : Int) := by omega
  have HR := Aside0.mk hR
  have HX := Aside0.mk hx
  have HS := Aside0.mk hbase
  have HL := Aside0.mk hl
  clear hR hbx hbase hl hcx hx hlc
  obtain ⟨i0, hi, hz0, hz1, hz2⟩ := info_parts info2
  obtain ⟨A1, hcut⟩ := Go.Proofs.YtkgjikjnciihmaaH.cut_any (P := Try.prog) 40 2 .i64 Try.underlying40 hi A l0.length c l0.length (Nat.le_refl _)
  clear hi hz0 hz1 hz2
  go_enter Try.func81, Try.ntmps81
  go_wp2_with ((with_reducible refine gate_builtin (b := .append) (xs := #[.tmp 23, .tmp 24]) rfl ?_); at_builtin; refine Kd.R_append_rows (Kd.int .i64) (Rr := Kd.K (Kd.int .i64) w) (w0 := w) base rfl (.tmp 23) (.tmp 24) 40 2 (.int .i64 0) 8 rfl Try.underlying40 info2 rfl (by decide) (by decide) (.slice _ l0.length c) l0 [x] (some ⟨bx, 0, none⟩) 1 1 (fun _ => True) (fun _ => False) rfl rfl ?aO ?aR ?aK (fun _ h => h.elim) ?aF ?aB ?aS ?aL ?_; (case aR => exact HC.out); (case aK => intro p cs hp; exact (by rw [show cs = [Value.int .i64 p] from hp]; rfl)); (case aB => exact Below.refl _ _); (case aF => exact (fun _ _ => trivial)); (case aO => exact HR.out); (case aS => exact HS.out); (case aL => have := HL.out; omega); intro v7 w7 ho hb hg hat; have HO7 := Aside0.mk ho; have HB7 := Aside0.mk hb; clear ho hb hg hat)
  go_ret
  exact ⟨_, rfl, HO7.out, HB7.out⟩
set_option maxHeartbeats 8000000 in
set_option maxRecDepth 100000 in
theorem impl_SetPut.ins_in (v : Value) (l0 : List Int) (i : Nat) (x : Int) (cx : List Value) (bx base : Nat) (w : World) (hR : Kd.R (Kd.int .i64) 2 w base (fun _ => True) v l0) (hi : i < l0.length) (hcx : cx.length = 1) (hx : ∀ W b okp, Kd.M (Kd.int .i64) W b okp x cx) (hc1 : ∀ u ∈ cx, u.oneCell' = true)
    (hbx : w.heap[bx]? = some (.cells cx.toArray 2 (0, 0))) (hne : v.ownBlock ≠ some bx) (hbase : base ≤ w.heap.size) (hl : l0.length ≤ 1048576) (hroom : ∀ g c, v = .slice (some ⟨g, 0, none⟩) l0.length c → l0.length + 1 ≤ c) :
    Calls Try.prog 81 #[v, .int .i64 (i : Int), .slice (some ⟨bx, 0, none⟩) 1 1] w fun e w' => ∃ v' : Value, e = .returned v' ∧ Kd.R (Kd.int .i64) 2 w' base (fun _ => True) v' (l0.take i ++ [x] ++ l0.drop i) ∧ Below base w w' := by
  obtain ⟨g, c, cur, hd, tl, rfl, hgb, hh, hnc, hcm, hcs, hhd, htl, hcd, hct, h1d, h1t, _⟩ := Go.Proofs.YtkgjikjnciihmaaH.R_open hR (by decide) i hi
  have hrm := hroom g c rfl
  have esz : ((Kd.int .i64)).sz = 1 := rfl
  have hgx : g ≠ bx := fun e => hne (by rw [e]; rfl)
  have FIN := Aside0.mk (Go.Proofs.YtkgjikjnciihmaaH.R_put_in (cur := cur) (Kd.R_drew hR) i (by omega) hrm x cx tl hcx hx htl (fun j u h => hct j u h))
  simp only [esz, Nat.mul_one] at hcs hhd htl hct FIN
  clear esz
  have BEL := Aside0.mk (Go.Proofs.YtkgjikjnciihmaaH.below_setCells hgb cx (i) (Go.Proofs.YtkgjikjnciihmaaH.below_setCells hgb tl (i + 1) (below_drew (Below.refl base w))))
  obtain ⟨i0, hi0, hz0, hz1, hz2⟩ := info_parts info2
  obtain ⟨A1, hcut⟩ := Go.Proofs.YtkgjikjnciihmaaH.cut_any (P := Try.prog) 40 2 .i64 Try.underlying40 hi0 (some ⟨g, 0, none⟩) l0.length c i (by omega)
  have hsz : (Try.prog.info? 2).map (·.size) = some 1 := by rw [hi0]; simp [hz1]
  have hcell : ∀ k, k < c * 1 → (w.cell? ⟨g, k, none⟩).isSome = true := fun k hk => by
    rw [blk_cell hh, Array.getElem?_eq_getElem (by omega)]; rfl
  have hfz : ∀ k, w.frozen? ⟨g, k, none⟩ = false := fun k => blk_frozen hh k
  have hsa : w.shape? bx = some (2, cx.toArray.size) := by simp [World.shape?, hbx]
  have hsb : w.shape? g = some (2, cur.size) := by simp [World.shape?, hh]
  have hkB : cur.size ≠ 0 := by rw [hcs]; omega
  have hov : ∀ o lb cb, (callFunc 95 #[.slice (some ⟨bx, 0, none⟩) 1 1, .slice (some ⟨g, o, none⟩) lb cb]).run Try.prog w = .ok (.value (.bool false)) w := fun o lb cb => by
    rw [run_callFunc_extern Try.func95 (by kernel_rfl) (by kernel_rfl) (by kernel_rfl) (e := Extern.SlicesOverlaps.overlaps #[40, 40] #[4]) (by kernel_rfl),
      Go.Lib.run_overlaps_apart w 40 4 2 Try.underlying40 1 (fun w => by simp [sizeOf, typeInfo, hi0, hz1]) ⟨bx, 0, none⟩ ⟨g, o, none⟩ 1 1 lb cb (fun h => hgx h.symm) 2 2 _ _ hsa hsb hkB (blk_frozen hbx _) (blk_frozen hbx _)]
    rfl
  have hcp1 : ∀ ty dc sc, (Builtin.copy_ #[40, 40] ty #[.slice (some ⟨g, i + 1, none⟩) (l0.length - i) dc, .slice (some ⟨g, i, none⟩) (l0.length + 1 - i) sc]).run Try.prog w.drew = .ok (goInt (l0.length - i : Nat)) (w.drew.setCells g (i + 1) tl) := fun ty dc sc => by
    have h := Go.Proofs.YtkgjikjnciihmaaH.run_copy_cellsN (P := Try.prog) w.drew 40 40 ty 2 1 g (i + 1) (l0.length - i) dc ⟨g, i, none⟩ (l0.length + 1 - i) sc tl Try.underlying40 hsz (by rw [htl]; congr 1; simp only [Nat.min_def]; split <;> omega)
      (fun j v hj => by rw [show (⟨g, i, none⟩ : Addr).add j = ⟨g, i + j, none⟩ by unfold Addr.add; split <;> simp_all]; exact hct j v hj)
      (fun j hj => hcell _ (by omega)) (fun j hj => hfz _) h1t
    rw [h]
    congr 2
    simp only [Nat.min_def]; split <;> omega
  have hW1 : ∃ W1, W1 = w.drew.setCells g (i + 1) tl := ⟨_, rfl⟩
  obtain ⟨W1, hW1⟩ := hW1
  have hcp2 : ∀ (W : World), (∀ x, W.cell? x = W1.cell? x) → (∀ x, W.frozen? x = W1.frozen? x) → ∀ ty dc, (Builtin.copy_ #[40, 40] ty #[.slice (some ⟨g, i, none⟩) (l0.length + 1 - i) dc, .slice (some ⟨bx, 0, none⟩) 1 1]).run Try.prog W = .ok (goInt (1 : Nat)) (W.setCells g (i) cx) := fun W hWc hWf ty dc => by
    have h := Go.Proofs.YtkgjikjnciihmaaH.run_copy_cellsN (P := Try.prog) W 40 40 ty 2 1 g (i) (l0.length + 1 - i) dc ⟨bx, 0, none⟩ 1 1 cx Try.underlying40 hsz (by rw [hcx]; simp only [Nat.min_def]; split <;> omega)
      (fun j v hj => by
        rw [add_plain, hWc, hW1, World.cell?_setCells_out g _ _ _ _ (fun h _ => absurd h.symm hgx)]
        exact (blk_cell (w := w) hbx j).trans (by simpa using hj))
      (fun j hj => by
        rw [hWc, hW1]
        exact Go.Proofs.YtkgjikjnciihmaaH.isSome_setCells g tl (i + 1) w.drew (fun k hk => hcell _ (by omega)) _ (hcell _ (by omega)))
      (fun j hj => by rw [hWf, hW1, World.frozen?_setCells]; exact hfz _) hc1
    rw [h]
    congr 2
    simp only [Nat.min_def]; split <;> omega
  rw [← hW1] at hcp1
  have HW := Aside0.mk hW1
  have HI := Aside0.mk hi
  have HC := Aside0.mk hc1
  have HL := Aside0.mk hl
  have HX := Aside0.mk hx
  have HG := Aside0.mk hgx
  have HT := Aside0.mk hct
  have HD := Aside0.mk hcd
  have H2 := Aside0.mk (And.intro h1d h1t)
  have H3 := Aside0.mk (And.intro hhd htl)
  have H4 := Aside0.mk (And.intro hcell hfz)
  have HB := Aside0.mk hbx
  have hz1' : ¬ ((i : Int) = (l0.length : Int)) := by omega
  have hz2' : (i : Int) ≤ (l0.length : Int) := by omega
  have hz3' : (l0.length : Int) + 1 ≤ (c : Int) := by omega
  have hz4' : (i : Int) ≤ (l0.length : Int) + 1 := by omega
  have hz5' : (c : Int) ≤ 9223372036854775807 := by omega
  have hz6' : ¬ (c = i + 1) := by omega
  have hz7' : ¬ (c = i) := by omega
  have hz8' : IntKind.i64.wrap ((i : Int) + 1) = (i : Int) + 1 := by rw [IntKind.wrap_i64]; omega
  have hz9' : ((i : Int) + 1).toNat = i + 1 := by omega
  have hz10' : (0 : Int) ≤ (i : Int) + 1 := by omega
  have mixed : Try.prog.follows .mixedOrders = true := by kernel_rfl
  clear hW1 hi hc1 hl hx hgx hct hcd h1d h1t hhd htl hcell hfz hbx hR hh hroom hne hsa hsb hkB hsz hi0 hz0 hz1 hz2 hgb hcs hcx hbase
  go_enter Try.func81, Try.ntmps81
  go_wp2_with (simp only [hov])
  go_region_law_o (refine Go.Proofs.YtkgjikjnciihmaaH.step_copy_runI rfl _ _ 40 40 rfl _ _ (by simp [Act.eval, Act.put]) (by simp [Act.eval, Act.put]) (hcp1 _ _ _) ?_)
  go_wp2_with (at_builtin; refine Go.Proofs.YtkgjikjnciihmaaH.wpList_copy_runI _ rfl _ _ 40 40 rfl _ _ rfl rfl (hcp2 _ (fun _ => rfl) (fun _ => rfl) _ _) ?_)
  go_ret
  exact ⟨_, rfl, by rw [HW.out]; exact FIN.out, by rw [HW.out]; exact BEL.out⟩
set_option maxHeartbeats 8000000 in
set_option maxRecDepth 100000 in
theorem impl_SetPut.ins_grow (v : Value) (l0 : List Int) (i : Nat) (x : Int) (cx : List Value) (bx base : Nat) (w : World) (hR : Kd.R (Kd.int .i64) 2 w base (fun _ => True) v l0) (hi : i < l0.length) (hcx : cx.length = 1) (hx : ∀ W b okp, Kd.M (Kd.int .i64) W b okp x cx) (hc1 : ∀ u ∈ cx, u.oneCell' = true)
    (hbx : w.heap[bx]? = some (.cells cx.toArray 2 (0, 0))) (hbase : base ≤ w.heap.size) (hl : l0.length ≤ 1048576) (hroom : ∀ g c, v = .slice (some ⟨g, 0, none⟩) l0.length c → c < l0.length + 1) :
    Calls Try.prog 81 #[v, .int .i64 (i : Int), .slice (some ⟨bx, 0, none⟩) 1 1] w fun e w' => ∃ v' : Value, e = .returned v' ∧ Kd.R (Kd.int .i64) 2 w' base (fun _ => True) v' (l0.take i ++ [x] ++ l0.drop i) ∧ Below base w w' := by
  obtain ⟨g, c, cur, hd, tl, rfl, hgb, hh, hnc, hcm, hcs, hhd, htl, hcd, hct, h1d, h1t, hnew⟩ := Go.Proofs.YtkgjikjnciihmaaH.R_open hR (by decide) i hi
  have hrm := hroom g c rfl
  have esz : ((Kd.int .i64)).sz = 1 := rfl
  simp only [esz, Nat.mul_one] at hcs hhd htl hct hnew
  clear esz
  obtain ⟨i0, hi0, hz0, hz1, hz2⟩ := info_parts info2
  have hsz : (Try.prog.info? 2).map (·.size) = some 1 := by rw [hi0]; simp [hz1]
  have hgw : g < w.heap.size := blk_lt hh
  have hxw : bx < w.heap.size := blk_lt hbx
  have hold : (Builtin.firstCells i0.size i (.slice (some ⟨g, 0, none⟩) i c)).run Try.prog w.drew = .ok hd.toArray w.drew := by
    rw [hz1]
    exact run_firstCells_some w.drew 1 i ⟨g, 0, none⟩ i c hd (by omega) (fun j v hj => by rw [add_plain]; exact hcd j v hj)
  have hrz : ∀ ty, (Builtin.append_ #[40, 3] ty #[.slice (some ⟨g, 0, none⟩) i c, .int .i64 ((l0.length : Int) + 1 - (i : Int))]).run Try.prog w =
      .ok (.slice (some ⟨w.heap.size, 0, none⟩) (l0.length + 1) (grownCap w (l0.length + 1) c 2)) (w.drew.alloc (.cells (hd.toArray ++ Builtin.zeroCells (Value.cells (.int .i64 0)) (l0.length + 1 - i) ++ Builtin.zeroCells (Value.cells (.int .i64 0)) (grownCap w (l0.length + 1) c 2 - (l0.length + 1))) 2)) := fun ty => by
    have h := Go.Lib.run_append_grow_zeros w 40 3 ty 2 i0 _ .i64 .i64 Try.underlying40 Try.underlying3 hi0 hz0 (some ⟨g, 0, none⟩) i c hd hold (l0.length + 1 - i) (by omega) (by omega) (by omega) (by omega) (by rw [hz2]; omega) (by rw [hz2, show i + (l0.length + 1 - i) = l0.length + 1 by omega]; exact growslice_fits hrm (by omega))
    rw [show i + (l0.length + 1 - i) = l0.length + 1 by omega] at h
    rw [show (l0.length : Int) + 1 - (i : Int) = ((l0.length + 1 - i : Nat) : Int) by omega]
    exact h
  have hGn : l0.length + 1 ≤ grownCap w (l0.length + 1) c 2 := grownCap_ge w _ _ _
  have hG63 : grownCap w (l0.length + 1) c 2 ≤ 9223372036854775807 := by
    have := grownCap_le_maxLen w (l0.length + 1) c 2 (by unfold maxLen; omega)
    unfold maxLen at this
    omega
  generalize grownCap w (l0.length + 1) c 2 = G at *
  obtain ⟨ROW, hROW⟩ : ∃ ROW : Array Value, ROW = hd.toArray ++ Builtin.zeroCells (Value.cells (.int .i64 0)) (l0.length + 1 - i) ++ Builtin.zeroCells (Value.cells (.int .i64 0)) (G - (l0.length + 1)) := ⟨_, rfl⟩
  rw [← hROW] at hrz
  have hzs : (Value.cells (.int .i64 0)).size = 1 := rfl
  have hRl : ROW.size = G * 1 := by
    rw [hROW, Array.size_append, Array.size_append, size_zeroCells, size_zeroCells, hzs, List.size_toArray, hhd]
    omega
  have hRt : ROW.toList = hd ++ (Builtin.zeroCells (Value.cells (.int .i64 0)) (l0.length + 1 - i) ++ Builtin.zeroCells (Value.cells (.int .i64 0)) (G - (l0.length + 1))).toList := by
    rw [hROW]; simp
  have hRr : cx.length + tl.length ≤ ((Builtin.zeroCells (Value.cells (.int .i64 0)) (l0.length + 1 - i) ++ Builtin.zeroCells (Value.cells (.int .i64 0)) (G - (l0.length + 1))).toList).length := by
    simp only [Array.length_toList (xs := _ ++ _), Array.size_append, size_zeroCells, hzs]
    omega
  have W1b : (w.drew.alloc (.cells ROW 2)).heap[w.heap.size]? = some (.cells ROW 2 (0, 0)) := blk_new w.drew _
  obtain ⟨W1, hW1⟩ : ∃ W1, W1 = w.drew.alloc (.cells ROW 2) := ⟨_, rfl⟩
  rw [← hW1] at hrz W1b
  have hN : ∀ j, j < G * 1 → (W1.cell? ⟨w.heap.size, j, none⟩).isSome = true := fun j hj => by
    rw [blk_cell W1b, Array.getElem?_eq_getElem (by omega)]; rfl
  have hNf : ∀ j, W1.frozen? ⟨w.heap.size, j, none⟩ = false := fun j => blk_frozen W1b j
  have hO : ∀ b j v, b < w.heap.size → w.cell? ⟨b, j, none⟩ = some v → W1.cell? ⟨b, j, none⟩ = some v := fun b j v hb h => by rw [hW1, World.cell?_alloc_past (w := w.drew) _ b j hb]; exact h
  have hcpA : ∀ (W : World), (∀ x, W.cell? x = W1.cell? x) → (∀ x, W.frozen? x = W1.frozen? x) → ∀ ty dc, (Builtin.copy_ #[40, 40] ty #[.slice (some ⟨w.heap.size, i, none⟩) (l0.length + 1 - i) dc, .slice (some ⟨bx, 0, none⟩) 1 1]).run Try.prog W = .ok (goInt (1 : Nat)) (W.setCells w.heap.size (i) cx) := fun W hWc hWf ty dc => by
    have h := Go.Proofs.YtkgjikjnciihmaaH.run_copy_cellsN (P := Try.prog) W 40 40 ty 2 1 w.heap.size (i) (l0.length + 1 - i) dc ⟨bx, 0, none⟩ 1 1 cx Try.underlying40 hsz (by rw [hcx]; simp only [Nat.min_def]; split <;> omega)
      (fun j v hj => by rw [add_plain, hWc]; exact hO bx j v hxw ((blk_cell (w := w) hbx j).trans (by simpa using hj)))
      (fun j hj => by rw [hWc]; exact hN _ (by omega)) (fun j hj => by rw [hWf]; exact hNf _) hc1
    rw [h]
    congr 2
    simp only [Nat.min_def]; split <;> omega
  have hcpB : ∀ (W : World), (∀ x, W.cell? x = (W1.setCells w.heap.size (i) cx).cell? x) → (∀ x, W.frozen? x = (W1.setCells w.heap.size (i) cx).frozen? x) → ∀ ty dc sc, (Builtin.copy_ #[40, 40] ty #[.slice (some ⟨w.heap.size, i + 1, none⟩) (l0.length - i) dc, .slice (some ⟨g, i, none⟩) (l0.length - i) sc]).run Try.prog W = .ok (goInt (l0.length - i : Nat)) (W.setCells w.heap.size (i + 1) tl) := fun W hWc hWf ty dc sc => by
    have h := Go.Proofs.YtkgjikjnciihmaaH.run_copy_cellsN (P := Try.prog) W 40 40 ty 2 1 w.heap.size (i + 1) (l0.length - i) dc ⟨g, i, none⟩ (l0.length - i) sc tl Try.underlying40 hsz (by rw [htl]; simp only [Nat.min_def]; split <;> omega)
      (fun j v hj => by
        rw [show (⟨g, i, none⟩ : Addr).add j = ⟨g, i + j, none⟩ by unfold Addr.add; split <;> simp_all, hWc, World.cell?_setCells_out _ _ _ _ _ (fun h _ => absurd h (by show g ≠ w.heap.size; omega))]
        exact hO g _ v hgw (hct j v hj))
      (fun j hj => by rw [hWc]; exact Go.Proofs.YtkgjikjnciihmaaH.isSome_setCells w.heap.size cx (i) W1 (fun t ht => hN _ (by omega)) _ (hN _ (by omega)))
      (fun j hj => by rw [hWf, World.frozen?_setCells]; exact hNf _) h1t
    rw [h]
    congr 2
    simp only [Nat.min_def]; split <;> omega
  obtain ⟨cur', hb1, hb2, hb3⟩ := Go.Proofs.YtkgjikjnciihmaaH.new_row (W1 := (w.alloc (.cells ROW 2)).drew) (o := i) (o2 := i + 1) (W2 := (((w.alloc (.cells ROW 2)).drew.setCells w.heap.size (i) cx).drew)) (blk_drew (blk_new w _)) hRt hRr (by omega) (by omega) rfl
  have HB1 : Below w.heap.size w ((((w.alloc (.cells ROW 2)).drew.setCells w.heap.size (i) cx).drew).setCells w.heap.size (i + 1) tl) := Go.Proofs.YtkgjikjnciihmaaH.below_setCells (Nat.le_refl _) tl _ (below_drew (Go.Proofs.YtkgjikjnciihmaaH.below_setCells (Nat.le_refl _) cx _ (below_drew (below_alloc (Below.refl _ w) _))))
  have FIN := Aside0.mk (hnew _ _ G cur' x cx HB1 hbase (Nat.le_refl _) hb1 hGn hG63 (by rw [hb2]; omega) hcx hx (by rw [← hb3]; congr 1; omega))
  have BEL := Aside0.mk (HB1.mono hbase)
  subst hW1
  have hE1 : ∀ x, ((w.alloc (.cells ROW 2)).drew).cell? x = (w.drew.alloc (.cells ROW 2)).cell? x := fun x => rfl
  have hE2 : ∀ x, ((w.alloc (.cells ROW 2)).drew).frozen? x = (w.drew.alloc (.cells ROW 2)).frozen? x := fun x => rfl
  have hF1 : ∀ x, (((w.alloc (.cells ROW 2)).drew.setCells w.heap.size (i) cx).drew).cell? x = ((w.drew.alloc (.cells ROW 2)).setCells w.heap.size (i) cx).cell? x := fun x => rfl
  have hF2 : ∀ x, (((w.alloc (.cells ROW 2)).drew.setCells w.heap.size (i) cx).drew).frozen? x = ((w.drew.alloc (.cells ROW 2)).setCells w.heap.size (i) cx).frozen? x := fun x => rfl
  have HI := Aside0.mk hi
  have HX := Aside0.mk (And.intro hx (And.intro hc1 (And.intro h1d h1t)))
  have hz1' : ¬ ((i : Int) = (l0.length : Int)) := by omega
  have hz2' : (i : Int) ≤ (l0.length : Int) := by omega
  have hz3' : (c : Int) < (l0.length : Int) + 1 := by omega
  have hz4' : (i : Int) ≤ (l0.length : Int) + 1 := by omega
  have hz5' : (c : Int) ≤ 9223372036854775807 := by omega
  have hz6' : ¬ (G = i + 1) := by omega
  have hz7' : ¬ (G = i) := by omega
  have hz11' : ¬ (c = i) := by omega
  have hz8' : IntKind.i64.wrap ((i : Int) + 1) = (i : Int) + 1 := by rw [IntKind.wrap_i64]; omega
  have hz9' : ((i : Int) + 1).toNat = i + 1 := by omega
  have hz10' : (0 : Int) ≤ (i : Int) + 1 := by omega
  have hz14' : (i : Int) ≤ (c : Int) := by omega
  have hz13' : (l0.length : Int) ≤ 1048576 := by omega
  have hz12' : (i : Int) + 1 ≤ (l0.length : Int) + 1 := by omega
  have mixed : Try.prog.follows .mixedOrders = true := by kernel_rfl
  have HLL := Aside0.mk (And.intro hl (And.intro hgw (And.intro hxw (And.intro hGn (And.intro hG63 hcm)))))
  clear hi hx hc1 h1d h1t hR hh hroom hrm hsz hi0 hz0 hz1 hz2 hgb hcs hcx hbase hnew hold hROW hzs hRl hRt hRr W1b hN hNf hO hb1 hb2 hb3 HB1 hl hgw hxw hnc hcm hhd htl hcd hct hbx hGn hG63
  go_enter Try.func81, Try.ntmps81
  go_wp2_with (first
    | (at_builtin; refine Go.Lib.wpList_append_run _ rfl _ _ _ _ rfl _ _ rfl rfl _ _ (hrz _) ?_)
    | (at_builtin; refine Go.Proofs.YtkgjikjnciihmaaH.wpList_copy_runI _ rfl _ _ 40 40 rfl _ _ rfl rfl (hcpA _ hE1 hE2 _ _) ?_)
    | (at_builtin; refine Go.Proofs.YtkgjikjnciihmaaH.wpList_copy_runI _ rfl _ _ 40 40 rfl _ _ rfl rfl (hcpB _ (fun _ => rfl) (fun _ => rfl) _ _ _) ?_))
  go_region_law_o (refine Go.Proofs.YtkgjikjnciihmaaH.step_copy_runI rfl _ _ 40 40 rfl (.slice (some ⟨w.heap.size, i + 1, none⟩) (l0.length - i) (G - (i + 1))) (.slice (some ⟨g, i, none⟩) (l0.length - i) (c - i)) (by simp [Act.eval, Act.put]) (by simp [Act.eval, Act.put]) (hcpB _ hF1 hF2 3 (G - (i + 1)) (c - i)) ?_)
  go_wp2
  go_ret
  exact ⟨_, rfl, FIN.out, BEL.out⟩
/-- One element put at place i. -/
theorem impl_SetPut.ins (v : Value) (l0 : List Int) (i : Nat) (x : Int) (cx : List Value) (bx base : Nat) (w : World) (hR : Kd.R (Kd.int .i64) 2 w base (fun _ => True) v l0) (hi : i ≤ l0.length) (hcx : cx.length = 1) (hx : ∀ W b okp, Kd.M (Kd.int .i64) W b okp x cx) (hc1 : ∀ u ∈ cx, u.oneCell' = true)
    (hbx : w.heap[bx]? = some (.cells cx.toArray 2 (0, 0))) (hne : v.ownBlock ≠ some bx) (hbase : base ≤ w.heap.size) (hl : l0.length ≤ 1048576) :
    Calls Try.prog 81 #[v, .int .i64 (i : Int), .slice (some ⟨bx, 0, none⟩) 1 1] w fun e w' => ∃ v' : Value, e = .returned v' ∧ Kd.R (Kd.int .i64) 2 w' base (fun _ => True) v' (l0.take i ++ [x] ++ l0.drop i) ∧ Below base w w' := by
  rcases Nat.lt_or_ge i l0.length with h | h
  · obtain ⟨g, c, rfl, _⟩ := Kd.R_form hR (by omega)
    by_cases hr : l0.length + 1 ≤ c
    · exact impl_SetPut.ins_in _ l0 i x cx bx base w hR h hcx hx hc1 hbx hne hbase hl (fun g' c' e => by cases e; exact hr)
    · exact impl_SetPut.ins_grow _ l0 i x cx bx base w hR h hcx hx hc1 hbx hbase hl (fun g' c' e => by cases e; omega)
  · obtain rfl : i = l0.length := by omega
    rw [List.take_of_length_le (Nat.le_refl _), List.drop_of_length_le (Nat.le_refl _), List.append_nil]
    exact impl_SetPut.ins_end _ l0 x cx bx base w hR hcx hx hbx hbase hl
/-! #### the set with a number -/
def impl_SetPut.f (k : Nat) (l0 : List Int) (a1 : Int) : Option (List Int) := (impl_longList_int64.f l0).bind fun b => if b = true then some [] else (slices_BinarySearch_int64_int64.f k l0 a1).bind fun p => (impl_SetRight.f k l0).bind fun c => if c = true ∧ p.2 = false ∧ l0.length ≠ 400 then (if 0 ≤ p.1 ∧ p.1.toNat ≤ l0.length ∧ l0.length ≤ 1048576 then some (l0.take p.1.toNat ++ [a1] ++ l0.drop p.1.toNat) else none) else slices_Clone_int64_int64.f l0
set_option maxHeartbeats 8000000 in
set_option maxRecDepth 100000 in
theorem impl_SetPut.calls (k : Nat) (A0 : Option Addr) (c0 : Nat) (l0 : List Int) (a1 : Int) (r : List Int) (w : World) (hr0 : Kd.C (Kd.int .i64) w A0 l0.length l0) (hc0 : l0.length ≤ c0) (h : impl_SetPut.f k l0 a1 = some r) :
    Calls Try.prog 41 #[.slice A0 l0.length c0, .int .i64 a1] w fun e w' => ∃ v0_ : Value, e = .returned (v0_) ∧ Kd.R (Kd.int .i64) 2 w' w.heap.size (fun _ => True) v0_ r ∧ Below w.heap.size w w' := by
  have HR0 := Aside0.mk hr0
  have HC0 := Aside0.mk hc0
  clear hr0 hc0
  unfold impl_SetPut.f at h
  replace h := Option.bind_eq_some_iff.mp h
  obtain ⟨b, hb, h⟩ := h
  have HB := Aside0.mk hb
  clear hb
  cases b with
  | true =>
    rw [if_pos rfl] at h
    obtain rfl := Option.some.inj h
    clear h
    go_enter Try.func41, Try.ntmps41
    go_wp2_with (go_at_call 66; (with_reducible refine (impl_longList_int64.calls A0 c0 l0 true _ HR0.out HC0.out HB.out).mono ?_); rintro e w' ⟨rfl, ⟨nd, rfl⟩⟩)
    go_ret
    exact ⟨_, rfl, Kd.R_nil _ _ _ _ _, pw_below_drewN (Below.refl _ _) _⟩
  | false =>
    rw [if_neg (by decide)] at h
    replace h := Option.bind_eq_some_iff.mp h
    obtain ⟨⟨at_, is_⟩, hp, h⟩ := h
    replace h := Option.bind_eq_some_iff.mp h
    obtain ⟨c, hc, h⟩ := h
    have HP := Aside0.mk hp
    have HQ := Aside0.mk hc
    clear hp hc
    have base : ∀ (test : (c = true ∧ is_ = false ∧ l0.length ≠ 400) = False) (h : slices_Clone_int64_int64.f l0 = some r), Calls Try.prog 41 #[.slice A0 l0.length c0, .int .i64 a1] w fun e w' => ∃ v0_ : Value, e = .returned (v0_) ∧ Kd.R (Kd.int .i64) 2 w' w.heap.size (fun _ => True) v0_ r ∧ Below w.heap.size w w' := by
      clear h
      intro test h
      have HK := Aside0.mk h
      clear h
      by_cases hl4 : l0.length = 400
      · have hl5 : ((l0.length : Int) == 400) = true := by simp [hl4]
        have HL := Aside0.mk hl4
        clear hl4 test
        cases c <;> cases is_ <;>
        (go_enter Try.func41, Try.ntmps41
         go_wp2_with (first | (go_at_call 66; (with_reducible refine (impl_longList_int64.calls A0 c0 l0 false _ HR0.out HC0.out HB.out).mono ?_); rintro e w' ⟨rfl, ⟨nd, rfl⟩⟩) | (go_at_call 80; (with_reducible refine (slices_BinarySearch_int64_int64.calls k A0 c0 l0 a1 at_ _ _ (by (with_reducible repeat (first | refine Kd.C_drewN ?_ _ | refine Kd.C_drew ?_)); exact HR0.out) HC0.out HP.out).mono ?_); rintro e w' ⟨rfl, ⟨nd2, rfl⟩⟩) | (go_at_call 48; (with_reducible refine (impl_SetRight.calls k A0 c0 l0 _ _ (by (with_reducible repeat (first | refine Kd.C_drewN ?_ _ | refine Kd.C_drew ?_)); exact HR0.out) HC0.out HQ.out).mono ?_); rintro e w' ⟨rfl, ⟨nd3, rfl⟩⟩) | (go_at_call 70; refine (slices_Clone_int64_int64.calls A0 c0 l0 r _ (Kd.C_below HR0.out (by repeat (first | exact Below.refl _ _ | apply pw_below_drewN | apply below_drew))) HC0.out HK.out).mono ?_; rintro e w' ⟨v0, rfl, ho, hb⟩; have RV := Aside0.mk ho; have HB4 := Aside0.mk hb; clear ho hb))
         go_ret
         exact ⟨_, rfl, RV.out, below_step (by repeat (first | exact Below.refl _ _ | apply pw_below_drewN | apply below_drew)) HB4.out⟩)
      · have hl5 : ((l0.length : Int) == 400) = false := beq_eq_false_iff_ne.2 (by omega)
        have HT := Aside0.mk test
        clear test hl4
        cases c <;> cases is_ <;> first
        | (exfalso; have := HT.out; have h2 : (true = true ∧ false = false ∧ l0.length ≠ 400) := ⟨rfl, rfl, by intro e; rw [e] at hl5; exact absurd hl5 (by decide)⟩; rw [this] at h2; exact h2)
        | (go_enter Try.func41, Try.ntmps41
           go_wp2_with (first | (go_at_call 66; (with_reducible refine (impl_longList_int64.calls A0 c0 l0 false _ HR0.out HC0.out HB.out).mono ?_); rintro e w' ⟨rfl, ⟨nd, rfl⟩⟩) | (go_at_call 80; (with_reducible refine (slices_BinarySearch_int64_int64.calls k A0 c0 l0 a1 at_ _ _ (by (with_reducible repeat (first | refine Kd.C_drewN ?_ _ | refine Kd.C_drew ?_)); exact HR0.out) HC0.out HP.out).mono ?_); rintro e w' ⟨rfl, ⟨nd2, rfl⟩⟩) | (go_at_call 48; (with_reducible refine (impl_SetRight.calls k A0 c0 l0 _ _ (by (with_reducible repeat (first | refine Kd.C_drewN ?_ _ | refine Kd.C_drew ?_)); exact HR0.out) HC0.out HQ.out).mono ?_); rintro e w' ⟨rfl, ⟨nd3, rfl⟩⟩) | (go_at_call 70; refine (slices_Clone_int64_int64.calls A0 c0 l0 r _ (Kd.C_below HR0.out (by repeat (first | exact Below.refl _ _ | apply pw_below_drewN | apply below_drew))) HC0.out HK.out).mono ?_; rintro e w' ⟨v0, rfl, ho, hb⟩; have RV := Aside0.mk ho; have HB4 := Aside0.mk hb; clear ho hb))
           go_ret
           exact ⟨_, rfl, RV.out, below_step (by repeat (first | exact Below.refl _ _ | apply pw_below_drewN | apply below_drew)) HB4.out⟩)
    by_cases test : c = true ∧ is_ = false ∧ l0.length ≠ 400
    · rw [if_pos test] at h
      clear base
      obtain ⟨rfl, rfl, hl4⟩ := test
      by_cases hat : 0 ≤ at_ ∧ at_.toNat ≤ l0.length ∧ l0.length ≤ 1048576
      · rw [if_pos hat] at h
        obtain rfl := Option.some.inj h
        clear h
        obtain ⟨i, rfl⟩ := Int.eq_ofNat_of_zero_le hat.1
        rw [Int.toNat_natCast] at hat ⊢
        have hl5 : ((l0.length : Int) == 400) = false := beq_eq_false_iff_ne.2 (by omega)
        have HI := Aside0.mk hat
        have HK := Aside0.mk (show slices_Clone_int64_int64.f l0 = some l0 by unfold slices_Clone_int64_int64.f; rw [if_pos (by omega)])
        clear hat hl4
        go_enter Try.func41, Try.ntmps41
        go_wp2_with (first | (go_at_call 66; (with_reducible refine (impl_longList_int64.calls A0 c0 l0 false _ HR0.out HC0.out HB.out).mono ?_); rintro e w' ⟨rfl, ⟨nd, rfl⟩⟩) | (go_at_call 80; (with_reducible refine (slices_BinarySearch_int64_int64.calls k A0 c0 l0 a1 _ _ _ (by (with_reducible repeat (first | refine Kd.C_drewN ?_ _ | refine Kd.C_drew ?_)); exact HR0.out) HC0.out HP.out).mono ?_); rintro e w' ⟨rfl, ⟨nd2, rfl⟩⟩) | (go_at_call 48; (with_reducible refine (impl_SetRight.calls k A0 c0 l0 _ _ (by (with_reducible repeat (first | refine Kd.C_drewN ?_ _ | refine Kd.C_drew ?_)); exact HR0.out) HC0.out HQ.out).mono ?_); rintro e w' ⟨rfl, ⟨nd3, rfl⟩⟩) | (go_at_call 70; refine (slices_Clone_int64_int64.calls A0 c0 l0 l0 _ (Kd.C_below HR0.out (by repeat (first | exact Below.refl _ _ | apply pw_below_drewN | apply below_drew))) HC0.out HK.out).mono ?_; rintro e w4 ⟨v0, rfl, ho, hb⟩; have RV := Aside0.mk ho; have HB4 := Aside0.mk (below_step (w := w) (by repeat (first | exact Below.refl _ _ | apply pw_below_drewN | apply below_drew)) hb); clear ho hb) | (go_at_call 81; refine (impl_SetPut.ins v0 l0 i a1 [.int .i64 a1] w4.heap.size w.heap.size (w4.alloc _) (Kd.R_alloc RV.out _) HI.out.2.1 rfl (fun _ _ _ => rfl) (by intro u hu; rw [List.mem_singleton.1 hu]; rfl) (blk_new w4 _) (by intro e; have := Kd.R_lt RV.out _ e; omega) (by have := HB4.out.size; simp; omega) HI.out.2.2).mono ?_; rintro e w5 ⟨v1, rfl, ho, hb⟩; have RD := Aside0.mk ho; have HB5 := Aside0.mk ((below_alloc HB4.out _).trans hb); clear ho hb))
        go_ret
        exact ⟨_, rfl, RD.out, HB5.out⟩
      · rw [if_neg hat] at h
        cases h
    · rw [if_neg test] at h
      exact base (eq_false test) h
theorem impl_SetPut.mono : ∀ a0 a1 k, LeO (impl_SetPut.f k a0 a1) (impl_SetPut.f (k + 1) a0 a1) := by
  intro a0 a1 k
  unfold impl_SetPut.f
  repeat' first
      | (with_reducible exact slices_BinarySearch_int64_int64.mono _ _ _)
      | (with_reducible exact impl_SetRight.mono _ _)
      | (with_reducible exact LeO.refl _)
      | (with_reducible exact LeO.none _)
      | (with_reducible refine LeO.ite ?_ ?_)
      | (with_reducible refine LeO.bind ?_ (fun _ => ?_))
      | exact LeO.refl _
      | exact LeO.none _
      | refine LeO.ite ?_ ?_
      | refine LeO.bind ?_ (fun _ => ?_)

end Go.Proofs.Ytkgjikjnciihmaa.PFnChance
